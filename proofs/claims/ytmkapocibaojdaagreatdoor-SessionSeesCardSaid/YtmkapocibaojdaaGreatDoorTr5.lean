/- Part 5 of the texts of a claim: Vec3 Errs Code OpErr2 Fault ComErr2 Bare Val. -/
import Derived.Test.YtmkapocibaojdaaGreatDoorProg
import Derived.WalkKit
import Derived.LaidEql
import Derived.Stop.Asserts
import Derived.RowKitTokens
import Derived.Test.YtmkapocibaojdaaGreatDoorTr4
open Array renaming getElem?_eq_none → iF, getElem?_eq_some_iff → bJ, getElem?_modify → fV
open ByteArray renaming mk → aL
open List renaming any_eq_true → gL, append_nil → bf, cons_append → iO, eq_nil_of_length_eq_zero → ct, getElem?_cons_zero → aV, getElem?_eq_getElem → ak, getElem?_eq_some_iff → ai, getElem?_of_mem → aJ, length_map → aA, map → aj, map_cons → cj, mem_cons → cE, mem_map → aB, mem_of_getElem? → ae, nodup_cons → jf, take → bZ, take_add_one → cV, take_of_length_le → br
open List.cons renaming injEq → lT
open Nat renaming le_refl → aX, lt_or_ge → dP, ne_of_lt → ob, zero_le → eo
open Option renaming map_eq_some_iff → aI
open Option.some renaming injEq → az
section
namespace Go.Proofs.YtmkapocibaojdaaGreatDoor
open Go Go.Sx
theorem Bx {xs ys:List Int} (h:iQ xs ys=0):b8 xs=0∧b8 ys=0∧xs.length=ys.length:=by
 unfold iQ at h
 split at h
 ·exact absurd h ‹_›
 ·split at h
  ·exact absurd h ‹_›
  ·split at h
   ·cases h
   ·rename_i h1 h2 h3
    exact⟨by simpa using h1,by simpa using h2,by omega⟩
set_option maxHeartbeats 4000000 in
theorem uk {w:World} {S:Nat→Prop} {er:Nat→Addr} {a b:Option Addr} {n m c d:Nat} {xs ys:List Int} (hE:gl w S (oF er)) (ha:cm w S (.slice a n c) (aS xs)) (hb:cm w S (.slice b m d) (aS ys)) (hl:xs.length≤1000000) (kS:ys.length≤1000000) :
  Calls Tryz.prog 100 #[.slice a n c,.slice b m d] w fun e w'=>
   (iQ xs ys≠0∧cQ [] w S w' e (.tuple #[.bool false,KR 390 er (iQ xs ys)]) [] []) ∨
   (iQ xs ys=0∧cQ [] w S w' e (.tuple #[.bool (lF xs ys),.nilIface]) [] []):=by
 refine jL Tryz.func100 RQ (args:=[.slice a n c,.slice b m d]) (G:=oF er++[(_,aS xs),(_,aS ys)]) (by kernel_rfl) (hE.app (.cons ha (.cons hb (.nil _ _)))) ?_
 try simp only[aQ]
 refine Zs [zR 0,zR 1] [] [zB 4 false,zV 5 .nilIface] ?_
 refine aq ?_
 refine jS [(0,true),(1,true),(2,false),(3,true)] [] ?_
 refine Ya [zR 0,zR 1] [] [zS 7 a n c,zS 8 b m d] ?_
 refine Yc 156 #[.slice a n c,.slice b m d] (some 9) fun w S hG=>?_
 refine(Su (hG.pick [0,1,2] rfl) (hG.at 3 rfl) (hG.at 4 rfl) hl kS).mono ?_
 rintro e w2 ⟨v,hR,⟨h2,rfl⟩|⟨h2,rfl⟩⟩
 ·refine⟨_,_,_,hR,?_⟩
  try simp only[aQ]
  refine Ya [zR 3] [9,7,8] [zV 6 .nilIface] ?_
  refine aC ?_
  refine Zs [zR 0,zR 1] [] [zB 11 false] ?_
  refine cF ?_
  refine aG ?_
  refine jS [(0,true),(1,true),(2,false),(3,true),(4,true)] [] ?_
  refine Ya [zR 0,zR 1] [11,6,0,1] [zS 13 a n c,zS 14 b m d] ?_
  refine Yc 157 #[.slice a n c,.slice b m d] (some 15) fun w S hG=>?_
  refine(V7 (hG.at 3 rfl) (hG.at 4 rfl) hl (Bx h2).2.2).mono ?_
  rintro e w2 hR
  refine⟨_,_,_,hR,?_⟩
  try simp only[aQ]
  refine Ya [zR 3,zR 4] [15,13,14] [zB 4 (lF xs ys)] ?_
  refine aC ?_
  refine Yr [[],[]] (.tuple #[.bool (lF xs ys),.nilIface]) fun a w s=>?_
  exact .inr ⟨h2,s.ret (by simp) [] [] rfl rfl⟩
 ·refine⟨_,_,_,hR,?_⟩
  try simp only[aQ]
  refine Ya [zR 3] [9,7,8] [zV 6 (.iface 390 (.pointer (some (er (iQ xs ys)))))] ?_
  refine aC ?_
  refine Zs [zR 0,zR 1] [] [zB 11 true] ?_
  refine gR ?_
  refine Zs (bh 0 3) [11,6] [zV 5 (.iface 390 (.pointer (some (er (iQ xs ys)))))] ?_
  refine Yr [[],[]] (.tuple #[.bool false,.iface 390 (.pointer (some (er (iQ xs ys))))]) fun a w s=>?_
  exact .inl ⟨h2,s.ret (by simp) [] [] rfl rfl⟩
def pz (xs:List Int):Int:=xs.foldl (· + ·) 0
theorem zo (xs:List Int) (x:Int):pz (xs++[x])=pz xs+x:=by simp[pz]
theorem JX {xs:List Int} (h:∀t∈xs,0≤t∧t≤1099511627776) (i:Nat):0≤pz (xs.take i)∧pz (xs.take i)≤1099511627776*i:=by
 induction i with
 | zero=>simp[pz]
 | succ i ih=>
  cases hx:xs[i]? with
  | none=>
   rw[cV,hx]
   simp only[Option.toList_none,bf]
   omega
  | some x=>
   rw[cV,hx]
   have:=h x (ae hx)
   simp only[Option.toList_some,zo]
   omega
set_option maxHeartbeats 4000000 in
theorem JM {w:World} {S:Nat→Prop} {er:Nat→Addr} {a:Option Addr} {n c:Nat} {xs:List Int} (hE:gl w S (oF er)) (ha:cm w S (.slice a n c) (aS xs)) (hl:xs.length≤1000000) :
  Calls Tryz.prog 195 #[.slice a n c] w fun e w'=>
   (b8 xs≠0∧cQ [] w S w' e (.tuple #[.int .i64 0,KR 390 er (b8 xs)]) [] []) ∨
   (b8 xs=0∧cQ [] w S w' e (.tuple #[.int .i64 (pz xs),.nilIface]) [] []):=by
 obtain rfl:=dJ ha
 refine jL Tryz.func195 Rb (args:=[.slice a xs.length c]) (G:=oF er++[(_,aS xs)]) (by kernel_rfl) (hE.app (.cons ha (.nil _ _))) ?_
 try simp only[aQ]
 refine Zs [zR 0,zR 1] [] [zI 2 0,zV 3 .nilIface] ?_
 refine aq ?_
 refine jS [(0,true),(1,false),(2,true)] [] ?_
 refine Ya [zR 0] [] [zS 8 a xs.length c] ?_
 refine Yc 141 #[.slice a xs.length c] (some 9) fun w S hG=>?_
 refine(vp (hG.pick [0,1,2] rfl) (hG.at 3 rfl) hl).mono ?_
 rintro e w2 ⟨v,hR,⟨h2,rfl⟩|⟨h2,rfl⟩⟩
 ·refine⟨_,_,_,hR,?_⟩
  have h6:=jV h2
  try simp only[aQ]
  refine Ya [zR 2] [9,8] [zV 4 .nilIface] ?_
  refine aC ?_
  refine Zs [zR 0,zR 1] [] [zB 11 false] ?_
  refine cF ?_
  refine aG ?_
  refine Zs [zR 0] [11,4] [zI 5 0] ?_
  refine aq ?_
  refine Zs (bh 0 3) [0] [zS 13 a xs.length c,zI 14 (↑xs.length:Int),zI 15 0] ?_
  refine aM ?_
  refine cU (fun i:Int=>[zI 2 0,zV 3 .nilIface,zI 5 (pz (xs.take i.toNat)),zS 13 a xs.length c,zI 14 (↑xs.length:Int),zI 15 i]) (fun i:Int=>[]) (fun i:Int=>[]) (fun i:Int=>[(.nilIface,(D.v Value.nilIface)),(.pointer (sA 0 0),(D.ptr [D.v (Value.iface 390 (Value.pointer (some (er 2))))])),(.pointer (sA 1 0),(D.ptr [D.v (Value.iface 390 (Value.pointer (some (er 3))))])),(.slice a xs.length c,(aS xs))]) (fun i:Int=>(xs.length - i).toNat) (fun i:Int=>(0≤i∧i≤xs.length)) 0 [2,3,5,13,14,15] [] [] [0,1,2,3] ?_ (by kernel_rfl) rfl rfl rfl ?_
  ·exact⟨by simp,by omega⟩
  rintro i ⟨hi0,hi⟩
  refine Zs [zR 0] [] [zB 16 (decide (i<(↑xs.length:Int)))] ?_
  refine aq ?_
  refine cC (t:=decide (i<(↑xs.length:Int))) (fun hlt=>?_) (fun hlt=>?_)
  ·have fa:i<xs.length:=by simpa using hlt
   obtain⟨x,hx⟩:∃x,xs[i.toNat]?=some x:=⟨_,ak (by omega)⟩
   have hs:=JX (vo h2) i.toNat
   have Ku:=vo h2 x (ae hx)
   refine gr 3 rfl i.toNat (dD hx) (by kernel_rfl) (fun b1 fu uf vi vm ha1 cP=>?_)
   cases ha1
   have cg:=oO (cP 0 _ rfl)
   try simp only[aQ]
   refine aG (aq (aM ?_))
   refine Zt [.rd 0 [] 0 2,.rd 1 [.r 0 (some (nI x))] 0 0,zR 2] [16] [zI 7 x] (oC hi0 (oC fa (oC cg oN))) ?_
   refine Zp [zR 0,zR 1,.rd 2 [] 0 1,zR 3] [] [zI 5 (pz (bZ i.toNat xs)+x)] (oC (show IntKind.i64.wrap (pz (bZ i.toNat xs)+x)=pz (bZ i.toNat xs)+x from wrap_i64 (by omega) (by omega)) oN) ?_
   refine eu ?_
   refine Zp [.rd 0 [] 0 1,zR 1] [] [zI 15 (i+1)] (oC (show IntKind.i64.wrap (i+1)=i+1 from wrap_i64 (by omega) (by omega)) oN) ?_
   rw[←zo,dz hi0 hx]
   refine bC (i+1) [2,3,5,13,14,15] [] [] [0,1,2,3] ?_ ?_ (by kernel_rfl) rfl rfl rfl
   ·exact⟨by omega,by omega⟩
   ·omega
  ·have e:xs.take i.toNat=xs:=br (by simp at hlt;omega)
   refine dO rfl ?_
   refine Zs (bh 0 3) [16,5,13,14,15] [zI 2 (pz (bZ i.toNat xs))] ?_
   refine Yr [[],[]] (.tuple #[nI (pz (bZ i.toNat xs)),.nilIface]) fun a w s=>?_
   rw[e]
   exact .inr ⟨h2,s.ret (by simp) [] [] rfl rfl⟩
 ·refine⟨_,_,_,hR,?_⟩
  try simp only[aQ]
  refine Ya [zR 2] [9,8] [zV 4 (.iface 390 (.pointer (some (er (b8 xs)))))] ?_
  refine aC ?_
  refine Zs [zR 0,zR 1] [] [zB 11 true] ?_
  refine gR ?_
  refine Zs (bh 0 3) [11,4] [zV 3 (.iface 390 (.pointer (some (er (b8 xs)))))] ?_
  refine Yr [[],[]] (.tuple #[nI 0,.iface 390 (.pointer (some (er (b8 xs))))]) fun a w s=>?_
  exact .inl ⟨h2,s.ret (by simp) [] [] rfl rfl⟩
end Go.Proofs.YtmkapocibaojdaaGreatDoor
end
section
namespace Go.Proofs.YtmkapocibaojdaaGreatDoor.Er
open Go Go.RowKit Go.Extern.Stop Go.Stop Go.Extern
theorem xS (v:Value) (w:World):(Extern.ReflectliteType.typeOf #[.iface 390 v]).run Tryz.prog w=.ok (.iface 330 (.agg #[.pointer (some ⟨13,390,none⟩)])) w:=by kernel_rfl
theorem uJ (w:World):(callFunc 292 #[.agg #[.pointer (some ⟨13,390,none⟩)]]).run Tryz.prog w=.ok (.value (.bool true)) w:=by kernel_rfl
theorem oD (v:Value) (w:World):(Go.method 523 330 v "Comparable").run Tryz.prog w=.ok (292,v) w:=by kernel_rfl
theorem H8:(Tryz.prog.info? 390).map (·.comparable)=some true:=by kernel_rfl
theorem H7:(Tryz.prog.info? 411).map (·.size)=some 1:=by kernel_rfl
theorem PE (v:Value) (xT:TypeId) (w:World):(Instr.typeAssert (.iface 390 v) xT 340 true).run Tryz.prog w=.ok (.tuple #[.nilIface,.bool false]) w:=run_typeAssert_lacksB Tryz.underlying340 (by kernel_rfl) (by kernel_rfl) v xT w
theorem zK (v:Value) (xT:TypeId) (w:World):(Instr.typeAssert (.iface 390 v) xT 337 true).run Tryz.prog w=.ok (.tuple #[.nilIface,.bool false]) w:=run_typeAssert_lacksB Tryz.underlying337 (by kernel_rfl) (by kernel_rfl) v xT w
theorem xF (v:Value) (xT:TypeId) (w:World):(Instr.typeAssert (.iface 390 v) xT 338 true).run Tryz.prog w=.ok (.tuple #[.nilIface,.bool false]) w:=run_typeAssert_lacksB Tryz.underlying338 (by kernel_rfl) (by kernel_rfl) v xT w
theorem PF (v:Value) (xT:TypeId) (w:World):(Instr.typeAssert (.iface 390 v) xT 334 true).run Tryz.prog w=.ok (.tuple #[.nilIface,.bool false]) w:=run_typeAssert_lacksB Tryz.underlying334 (by kernel_rfl) (by kernel_rfl) v xT w
theorem Kr (a:Addr) (w:World) :
  Calls Tryz.prog 124 #[.iface 390 (.pointer (some a)),.iface 390 (.pointer (some a))] w fun e w'=>e=.returned (.bool true)∧w'=w:=by
 obtain⟨i,hi,hcmp⟩:=aI.1 H8
 obtain⟨j,hj,VH⟩:=aI.1 H7
 have h8:=@run_callFunc_extern Tryz.prog 173 _ Extern.ReflectliteType.typeOf Tryz.func173 (by kernel_rfl) (by kernel_rfl) (by kernel_rfl) (by kernel_rfl)
 have tT:=xS
 have cT:=uJ
 have mR:=oD
 have heq:=run_eql_iface_ptr_same (P:=Tryz.prog) w a Tryz.underlying26 Tryz.underlying390 hi hcmp hj
 go_enter Tryz.func124,Tryz.ntmps124
 go_wp2
 refine wp_loop_rounds 1 ?_
 rw[rounds_succ]
 go_wp2
 go_ret
 exact⟨rfl,rfl⟩
theorem H6 (a b:Addr) (ca cb:Array Value) (ta tb:TypeId) (w:World) (hne:a≠b) (ha:w.heap[a.block]?=some (.cells ca ta (0,0))) (hb:w.heap[b.block]?=some (.cells cb tb (0,0))) :
  Calls Tryz.prog 124 #[.iface 390 (.pointer (some a)),.iface 390 (.pointer (some b))] w fun e w'=>e=.returned (.bool false)∧w'=w:=by
 obtain⟨i,hi,hcmp⟩:=aI.1 H8
 obtain⟨j,hj,VH⟩:=aI.1 H7
 have h8:=@run_callFunc_extern Tryz.prog 173 _ Extern.ReflectliteType.typeOf Tryz.func173 (by kernel_rfl) (by kernel_rfl) (by kernel_rfl) (by kernel_rfl)
 have tT:=xS
 have cT:=uJ
 have mR:=oD
 have nE:=PE
 have uE:=zK
 have vE:=xF
 have heq:=run_eql_iface_ptr_other (P:=Tryz.prog) w Tryz.underlying26 Tryz.underlying390 hi hcmp hj (by rw[VH];decide) hne ha hb
 go_enter Tryz.func124,Tryz.ntmps124
 go_wp2
 refine wp_loop_rounds 1 ?_
 rw[rounds_succ]
 go_wp2
 go_ret
 exact⟨rfl,rfl⟩
theorem zl (t:Addr) (w:World):(ReflectliteValue.unpack (.iface 229 (.pointer (some t)))).run Tryz.prog w
  = .ok (.agg #[.pointer (some ⟨13,229,none⟩),.pointer (some ⟨w.heap.size,0,none⟩),.int .u64 150]) (w.alloc (.cells #[.pointer (some t)] 229)):=by kernel_rfl
theorem G1 (a:Addr) (w:World):(ReflectliteValue.methodAny (ReflectliteValue.valueError "reflectlite.Value.Type" 0) (fun t _ _ _=>ReflectliteType.toType t) #[.agg #[.pointer (some ⟨13,229,none⟩),.pointer (some a),.int .u64 150]]).run Tryz.prog w
  = .ok (.iface 330 (.agg #[.pointer (some ⟨13,229,none⟩)])) w:=by kernel_rfl
theorem xH (h:Value) (w:World):(Go.method 523 330 (.agg #[h]) "Kind").run Tryz.prog w=.ok (280,h) w:=by kernel_rfl
theorem HY (w:World):((ReflectliteType.abiMethod fun t=>(fun a:Nat=>Value.int IntKind.u8 (a:Int)) <$> Rtype.kind t) #[.pointer (some ⟨13,229,none⟩)]).run Tryz.prog w=.ok (.int .u8 22) w:=by kernel_rfl
theorem LI (w:World):((ReflectliteType.abiMethod fun t=>(fun a:Nat=>Value.int IntKind.u8 (a:Int)) <$> Rtype.kind t) #[.pointer (some ⟨13,202,none⟩)]).run Tryz.prog w=.ok (.int .u8 22) w:=by kernel_rfl
theorem Vm (z:Sem Value) (f:TypeId→Addr→Nat→Nat→Sem Value) (v:Value) :
  ReflectliteValue.method z f #[v]=(do match ← ReflectliteValue.parts v with|none=>z|some (t,a,fl)=>f t a fl (fl % 32)):=rfl
theorem Eo (a:Addr) (w:World):(ReflectliteValue.parts (.agg #[.pointer (some ⟨13,229,none⟩),.pointer (some a),.int .u64 150])).run Tryz.prog w=.ok (some (229,a,150)) w:=by kernel_rfl
theorem Ew (a p:Addr) (W:World) (ha:W.cell? a=some (.pointer (some p))) :
  (ReflectliteValue.method (ReflectliteValue.valueError "reflectlite.Value.IsNil" 0) ReflectliteValue.isNil #[.agg #[.pointer (some ⟨13,229,none⟩),.pointer (some a),.int .u64 150]]).run Tryz.prog W=.ok (.bool false) W:=by
 rw[Vm]
 simp only[Sem.run_bind,Eo,Result.andThen]
 simp[ReflectliteValue.isNil,loadVar,isAgg,underlying,Tryz.underlying229,ha,Result.andThen]
theorem xI (h:Value) (w:World):(Go.method 523 330 (.agg #[h]) "Elem").run Tryz.prog w=.ok (293,.agg #[h]) w:=by kernel_rfl
theorem pO (h:Value) (w:World):(Go.method 523 330 (.agg #[h]) "Implements").run Tryz.prog w=.ok (294,.agg #[h]) w:=by kernel_rfl
theorem oA (h:Value) (w:World):(Go.method 523 330 (.agg #[h]) "AssignableTo").run Tryz.prog w=.ok (291,.agg #[h]) w:=by kernel_rfl
theorem IF (w:World):(ReflectliteType.method ReflectliteType.elem #[.agg #[.pointer (some ⟨13,229,none⟩)]]).run Tryz.prog w=.ok (.iface 330 (.agg #[.pointer (some ⟨13,202,none⟩)])) w:=by kernel_rfl
theorem wu (w:World):(ReflectliteType.relation "Implements" ReflectliteType.implements_ #[.agg #[.pointer (some ⟨13,202,none⟩)],.iface 330 (.agg #[.pointer (some ⟨13,26,none⟩)])]).run Tryz.prog w=.ok (.bool true) w:=by kernel_rfl
theorem JS (v:Value) (w:World):(ReflectliteType.typeOf #[.iface 202 v]).run Tryz.prog w=.ok (.iface 330 (.agg #[.pointer (some ⟨13,202,none⟩)])) w:=by kernel_rfl
theorem CK (w:World):(ReflectliteType.relation "AssignableTo" ReflectliteType.assignableTo #[.agg #[.pointer (some ⟨13,202,none⟩)],.iface 330 (.agg #[.pointer (some ⟨13,202,none⟩)])]).run Tryz.prog w=.ok (.bool true) w:=by kernel_rfl
theorem CJ (w:World):(ReflectliteType.relation "AssignableTo" ReflectliteType.assignableTo #[.agg #[.pointer (some ⟨13,390,none⟩)],.iface 330 (.agg #[.pointer (some ⟨13,202,none⟩)])]).run Tryz.prog w=.ok (.bool false) w:=by kernel_rfl
theorem GS (e:Addr) (w:World):(ReflectliteValue.unpack (.iface 202 (.pointer (some e)))).run Tryz.prog w
  = .ok (.agg #[.pointer (some ⟨13,202,none⟩),.pointer (some ⟨w.heap.size,0,none⟩),.int .u64 150]) (w.alloc (.cells #[.pointer (some e)] 202)):=by kernel_rfl
theorem IE (w:World):(Rtype.elem? 229).run Tryz.prog w=.ok (some 202) w:=by kernel_rfl
theorem Wi (p:Addr) (w:World):(ReflectliteValue.mk 202 p ReflectliteValue.flagAddr).run Tryz.prog w=.ok (.agg #[.pointer (some ⟨13,202,none⟩),.pointer (some p),.int .u64 406]) w:=by kernel_rfl
theorem KS (a p:Addr) (W:World) (ha:W.cell? a=some (.pointer (some p))) :
  (ReflectliteValue.method (ReflectliteValue.valueError "reflectlite.Value.Elem" 0) ReflectliteValue.elem #[.agg #[.pointer (some ⟨13,229,none⟩),.pointer (some a),.int .u64 150]]).run Tryz.prog W
   = .ok (.agg #[.pointer (some ⟨13,202,none⟩),.pointer (some p),.int .u64 406]) W:=by
 rw[Vm]
 simp only[Sem.run_bind,Eo,Result.andThen]
 simp[ReflectliteValue.elem,loadVar,isAgg,underlying,Tryz.underlying229,ha,Result.andThen,IE,Wi]
theorem rls (v x:Value):ReflectliteValue.set #[v,x]=(do
  let (some (dst,a,fl),some (src,b,_)):=(← ReflectliteValue.parts v,←ReflectliteValue.parts x)
   | unsupported (.noEntry "extern/(internal/reflectlite.Value).Set.zeroValue")
  if fl / ReflectliteValue.flagAddr % 2==0 then unsupported (.noEntry "extern/(internal/reflectlite.Value).Set.unaddressable")
  let val ← loadVar src b
  if ← Rtype.directlyAssignable dst src then storeVar dst a val
  else if ← Rtype.implements dst src then
   if (← Rtype.kind src)==20 then
    match val with
    | .nilIface=>unsupported (.noEntry "extern/reflectlite: a nil value of one interface type handed on as a value of another")
    | _=>storeVar dst a val
   else storeVar dst a (.iface src val)
  else panicString ("reflectlite.Set: value of type " ++ (← Rtype.spelt src) ++ " is not assignable to type " ++ (← Rtype.spelt dst))
  pure (.tuple #[])):=rfl
theorem J7 (a:Addr) (w:World):(ReflectliteValue.parts (.agg #[.pointer (some ⟨13,202,none⟩),.pointer (some a),.int .u64 406])).run Tryz.prog w=.ok (some (202,a,406)) w:=by kernel_rfl
theorem My (a:Addr) (w:World):(ReflectliteValue.parts (.agg #[.pointer (some ⟨13,202,none⟩),.pointer (some a),.int .u64 150])).run Tryz.prog w=.ok (some (202,a,150)) w:=by kernel_rfl
theorem KU (w:World):(Rtype.directlyAssignable 202 202).run Tryz.prog w=.ok true w:=by kernel_rfl
theorem Tl (ta b e:Addr) (old:Value) (W:World) (hb:W.cell? b=some (.pointer (some e))) (ht:W.cell? ta=some old) (hf:W.frozen? ta=false) :
  (ReflectliteValue.set #[.agg #[.pointer (some ⟨13,202,none⟩),.pointer (some ta),.int .u64 406],.agg #[.pointer (some ⟨13,202,none⟩),.pointer (some b),.int .u64 150]]).run Tryz.prog W
   = .ok (.tuple #[]) (W.setCell ta (.pointer (some e))):=by
 rw[rls]
 simp only[Sem.run_bind,J7,My,Result.andThen]
 simp[ReflectliteValue.flagAddr,loadVar,isAgg,underlying,Tryz.underlying202,hb,Result.andThen,KU,storeVar,Value.cells,storeCells,Addr.add]
 rw[run_store Tryz.prog W ta _ _ (by rfl)]
 simp[ht,hf]
theorem Bc {w:World} {a:Addr} {v:Value} (h:w.cell? a=some v):a.block<w.heap.size:=by
 rcases dP a.block w.heap.size with h'|h'
 ·exact h'
 ·simp[World.cell?,iF h']at h
set_option maxHeartbeats 4000000 in
theorem NN (e t:Addr) (old:Value) (w:World) (hg:w.cell? ⟨12,0,none⟩=some (.iface 330 (.agg #[.pointer (some ⟨13,26,none⟩)]))) (ht0:w.cell? t=some old) (VM:w.frozen? t=false) :
  Calls Tryz.prog 123 #[.iface 202 (.pointer (some e)),.iface 229 (.pointer (some t))] w fun ev w'=>ev=.returned (.bool true)∧w'=((((w.alloc (.cells #[.pointer (some t)] 229)).alloc (.cells #[.pointer (some ⟨13,229,none⟩),.pointer (some ⟨w.heap.size,0,none⟩),.int .u64 150] 285)).alloc (.cells #[.pointer (some ⟨13,229,none⟩),.pointer (some ⟨w.heap.size,0,none⟩),.int .u64 150] 285)).alloc (.cells #[.pointer (some e)] 202)).setCell t (.pointer (some e)):=by
 have h6:=@run_callFunc_extern Tryz.prog 169 _ (fun args=>ReflectliteValue.unpack (args.getD 0 (.tuple #[]))) Tryz.func169 (by kernel_rfl) (by kernel_rfl) (by kernel_rfl) (by kernel_rfl)
 have h7:=@run_callFunc_extern Tryz.prog 170 _ (ReflectliteValue.methodAny (ReflectliteValue.valueError "reflectlite.Value.Type" 0) (fun t _ _ _=>ReflectliteType.toType t)) Tryz.func170 (by kernel_rfl) (by kernel_rfl) (by kernel_rfl) (by kernel_rfl)
 have h8:=@run_callFunc_extern Tryz.prog 171 _ (ReflectliteValue.method (ReflectliteValue.valueError "reflectlite.Value.IsNil" 0) ReflectliteValue.isNil) Tryz.func171 (by kernel_rfl) (by kernel_rfl) (by kernel_rfl) (by kernel_rfl)
 have Xv:=@run_callFunc_extern Tryz.prog 280 _ (ReflectliteType.abiMethod fun t=>do pure (.int .u8 (← Rtype.kind t))) Tryz.func280 (by kernel_rfl) (by kernel_rfl) (by kernel_rfl) (by kernel_rfl)
 have Xt:=@run_callFunc_extern Tryz.prog 293 _ (ReflectliteType.method ReflectliteType.elem) Tryz.func293 (by kernel_rfl) (by kernel_rfl) (by kernel_rfl) (by kernel_rfl)
 have Xs:=@run_callFunc_extern Tryz.prog 294 _ (ReflectliteType.relation "Implements" ReflectliteType.implements_) Tryz.func294 (by kernel_rfl) (by kernel_rfl) (by kernel_rfl) (by kernel_rfl)
 have h10:=@run_callFunc_extern Tryz.prog 173 _ ReflectliteType.typeOf Tryz.func173 (by kernel_rfl) (by kernel_rfl) (by kernel_rfl) (by kernel_rfl)
 have Xu:=@run_callFunc_extern Tryz.prog 291 _ (ReflectliteType.relation "AssignableTo" ReflectliteType.assignableTo) Tryz.func291 (by kernel_rfl) (by kernel_rfl) (by kernel_rfl) (by kernel_rfl)
 have h11:=@run_callFunc_extern Tryz.prog 208 _ (ReflectliteValue.method (ReflectliteValue.valueError "reflectlite.Value.Elem" 0) ReflectliteValue.elem) Tryz.func208 (by kernel_rfl) (by kernel_rfl) (by kernel_rfl) (by kernel_rfl)
 have h12:=@run_callFunc_extern Tryz.prog 209 _ ReflectliteValue.set Tryz.func209 (by kernel_rfl) (by kernel_rfl) (by kernel_rfl) (by kernel_rfl)
 have tO:=JS
 have mA:=oA
 have a25:=CK
 have v25:=GS
 have f6:=zl
 have f7:=G1
 have mK:=xH
 have mE:=xI
 have mI:=pO
 have Wk:=HY
 have Wl:=LI
 have XF:=IF
 have i25:=wu
 have n8:=Ew ⟨w.heap.size,0,none⟩ t ((w.alloc (.cells #[.pointer (some t)] 229)).alloc (.cells #[.pointer (some ⟨13,229,none⟩),.pointer (some ⟨w.heap.size,0,none⟩),.int .u64 150] 285)) (by simp)
 have hlt:12<w.heap.size:=Bc hg
 have Uc:((w.alloc (.cells #[.pointer (some t)] 229)).alloc (.cells #[.pointer (some ⟨13,229,none⟩),.pointer (some ⟨w.heap.size,0,none⟩),.int .u64 150] 285)).cell? ⟨12,0,none⟩=some (.iface 330 (.agg #[.pointer (some ⟨13,26,none⟩)])):=by
  rw[World.cell?_alloc_lt _ _ ⟨12,0,none⟩ (by simp;omega),World.cell?_alloc_lt _ _ ⟨12,0,none⟩ hlt];exact hg
 have Vw:t.block<w.heap.size:=Bc ht0
 have el:=KS ⟨w.heap.size,0,none⟩ t (((w.alloc (.cells #[.pointer (some t)] 229)).alloc (.cells #[.pointer (some ⟨13,229,none⟩),.pointer (some ⟨w.heap.size,0,none⟩),.int .u64 150] 285)).alloc (.cells #[.pointer (some ⟨13,229,none⟩),.pointer (some ⟨w.heap.size,0,none⟩),.int .u64 150] 285)) (by rw[World.cell?_alloc_lt _ _ _ (by simp;omega),World.cell?_alloc_lt _ _ _ (by simp),World.cell?_alloc_at _ _ _ _ (by simp)];rfl)
 have st:=Tl t ⟨w.heap.size+1+1+1,0,none⟩ e old ((((w.alloc (.cells #[.pointer (some t)] 229)).alloc (.cells #[.pointer (some ⟨13,229,none⟩),.pointer (some ⟨w.heap.size,0,none⟩),.int .u64 150] 285)).alloc (.cells #[.pointer (some ⟨13,229,none⟩),.pointer (some ⟨w.heap.size,0,none⟩),.int .u64 150] 285)).alloc (.cells #[.pointer (some e)] 202))
  (by rw[World.cell?_alloc_at _ _ _ _ (by simp)];rfl)
  (by rw[World.cell?_alloc_lt _ _ t (by simp;omega),World.cell?_alloc_lt _ _ t (by simp;omega),World.cell?_alloc_lt _ _ t (by simp;omega),World.cell?_alloc_lt _ _ t Vw];exact ht0)
  (by rw[World.frozen?_alloc_old _ _ t (by simp;omega),World.frozen?_alloc_old _ _ t (by simp;omega),World.frozen?_alloc_old _ _ t (by simp;omega),World.frozen?_alloc_old _ _ t (ob Vw)];exact VM)
 go_enter Tryz.func123,Tryz.ntmps123
 go_wp2
 refine wp_loop_rounds 1 ?_
 rw[rounds_succ]
 go_wp2
 go_ret
 exact⟨rfl,rfl⟩
set_option maxHeartbeats 4000000 in
theorem Lb (e t:Addr) (w:World) (hg:w.cell? ⟨12,0,none⟩=some (.iface 330 (.agg #[.pointer (some ⟨13,26,none⟩)]))) :
  Calls Tryz.prog 123 #[.iface 390 (.pointer (some e)),.iface 229 (.pointer (some t))] w fun ev w'=>ev=.returned (.bool false)∧w'=(((w.alloc (.cells #[.pointer (some t)] 229)).alloc (.cells #[.pointer (some ⟨13,229,none⟩),.pointer (some ⟨w.heap.size,0,none⟩),.int .u64 150] 285)).alloc (.cells #[.pointer (some ⟨13,229,none⟩),.pointer (some ⟨w.heap.size,0,none⟩),.int .u64 150] 285)):=by
 have h6:=@run_callFunc_extern Tryz.prog 169 _ (fun args=>ReflectliteValue.unpack (args.getD 0 (.tuple #[]))) Tryz.func169 (by kernel_rfl) (by kernel_rfl) (by kernel_rfl) (by kernel_rfl)
 have h7:=@run_callFunc_extern Tryz.prog 170 _ (ReflectliteValue.methodAny (ReflectliteValue.valueError "reflectlite.Value.Type" 0) (fun t _ _ _=>ReflectliteType.toType t)) Tryz.func170 (by kernel_rfl) (by kernel_rfl) (by kernel_rfl) (by kernel_rfl)
 have h8:=@run_callFunc_extern Tryz.prog 171 _ (ReflectliteValue.method (ReflectliteValue.valueError "reflectlite.Value.IsNil" 0) ReflectliteValue.isNil) Tryz.func171 (by kernel_rfl) (by kernel_rfl) (by kernel_rfl) (by kernel_rfl)
 have Xv:=@run_callFunc_extern Tryz.prog 280 _ (ReflectliteType.abiMethod fun t=>do pure (.int .u8 (← Rtype.kind t))) Tryz.func280 (by kernel_rfl) (by kernel_rfl) (by kernel_rfl) (by kernel_rfl)
 have Xt:=@run_callFunc_extern Tryz.prog 293 _ (ReflectliteType.method ReflectliteType.elem) Tryz.func293 (by kernel_rfl) (by kernel_rfl) (by kernel_rfl) (by kernel_rfl)
 have Xs:=@run_callFunc_extern Tryz.prog 294 _ (ReflectliteType.relation "Implements" ReflectliteType.implements_) Tryz.func294 (by kernel_rfl) (by kernel_rfl) (by kernel_rfl) (by kernel_rfl)
 have h10:=@run_callFunc_extern Tryz.prog 173 _ ReflectliteType.typeOf Tryz.func173 (by kernel_rfl) (by kernel_rfl) (by kernel_rfl) (by kernel_rfl)
 have Xu:=@run_callFunc_extern Tryz.prog 291 _ (ReflectliteType.relation "AssignableTo" ReflectliteType.assignableTo) Tryz.func291 (by kernel_rfl) (by kernel_rfl) (by kernel_rfl) (by kernel_rfl)
 have tO:=xS
 have mA:=oA
 have a25:=CJ
 have f6:=zl
 have f7:=G1
 have mK:=xH
 have mE:=xI
 have mI:=pO
 have Wk:=HY
 have Wl:=LI
 have XF:=IF
 have i25:=wu
 have nA:=PF
 have uE:=zK
 have vE:=xF
 have n8:=Ew ⟨w.heap.size,0,none⟩ t ((w.alloc (.cells #[.pointer (some t)] 229)).alloc (.cells #[.pointer (some ⟨13,229,none⟩),.pointer (some ⟨w.heap.size,0,none⟩),.int .u64 150] 285)) (by simp)
 have hlt:12<w.heap.size:=Bc hg
 have Uc:((w.alloc (.cells #[.pointer (some t)] 229)).alloc (.cells #[.pointer (some ⟨13,229,none⟩),.pointer (some ⟨w.heap.size,0,none⟩),.int .u64 150] 285)).cell? ⟨12,0,none⟩=some (.iface 330 (.agg #[.pointer (some ⟨13,26,none⟩)])):=by
  rw[World.cell?_alloc_lt _ _ ⟨12,0,none⟩ (by simp;omega),World.cell?_alloc_lt _ _ ⟨12,0,none⟩ hlt];exact hg
 go_enter Tryz.func123,Tryz.ntmps123
 go_wp2
 refine wp_loop_rounds 1 ?_
 rw[rounds_succ]
 go_wp2
 go_ret
 exact⟨rfl,rfl⟩
end Go.Proofs.YtmkapocibaojdaaGreatDoor.Er
end
section
namespace Go.Proofs.YtmkapocibaojdaaGreatDoor
open Go Go.Sx
abbrev eO (er:Nat→Addr) (eb:Nat→Array Value×TypeId) (k:Nat):Value×D:=(.pointer (some (er k)),.obj (.cells (eb k).1 (eb k).2 (0,0)))
def yE (er:Nat→Addr) (eb:Nat→Array Value×TypeId):List (Value×D):=[dE 390 er 7 1,dE 390 er 0 2,dE 390 er 1 3,dE 390 er 8 4,dE 390 er 4 5,dE 390 er 9 6,dE 390 er 10 7,dE 390 er 6 8,dE 390 er 5 9,dE 390 er 2 10,dE 390 er 3 11,dE 390 er 11 12,(.pointer (some ⟨12,0,none⟩),.ptr [.v (.iface 330 (.agg #[.pointer (some ⟨13,26,none⟩)]))]),eO er eb 1,eO er eb 2,eO er eb 3,eO er eb 4,eO er eb 5,eO er eb 6,eO er eb 7,eO er eb 8,eO er eb 9,eO er eb 10,eO er eb 11,eO er eb 12]
abbrev dC (er:Nat→Addr) (eb:Nat→Array Value×TypeId):D:=.all (yE er eb)
def RY (er:Nat→Addr):Prop:=∀i j,1≤i→i≤12→1≤j→j≤12→er i=er j→i=j
theorem IG (er:Nat→Addr) (eb:Nat→Array Value×TypeId) {k:Nat} (h1:1≤k) (h2:k≤12):eO er eb k∈yE er eb:=by
 rcases(by omega:k=1∨k=2∨k=3∨k=4∨k=5∨k=6∨k=7∨k=8∨k=9∨k=10∨k=11∨k=12)with rfl|rfl|rfl|rfl|rfl|rfl|rfl|rfl|rfl|rfl|rfl|rfl <;> simp[yE,eO]
set_option maxHeartbeats 4000000 in
theorem kL {w:World} {S:Nat→Prop} {er:Nat→Addr} {eb:Nat→Array Value×TypeId} (h:cm w S .nilIface (dC er eb)):gl w S (oF er):=
 .cons (.v rfl) (.cons (h.part _ (ae (i:=1) rfl)) (.cons (h.part _ (ae (i:=2) rfl)) (.nil _ _)))
set_option maxHeartbeats 4000000 in
theorem DY {w:World} {S:Nat→Prop} {a:Addr} {o:Obj} (h:cm w S (.pointer (some a)) (.obj o)):w.heap[a.block]?=some o:=by
 cases h with
 | obj hb=>exact hb
set_option maxHeartbeats 4000000 in
theorem GR {w:World} {S:Nat→Prop} {g:Nat} {v:Value} (h:cm w S (.pointer (some ⟨g,0,none⟩)) (.ptr [.v v])):w.cell? ⟨g,0,none⟩=some v:=by
 cases h with
 | ptr u hb hS hcell mL=>
  have h1:=(mL 0 _ rfl).plain
  have h2:=hcell 0 (by simp)
  rw[h1]at h2
  simpa [World.cell?,hb]using h2
set_option maxHeartbeats 4000000 in
theorem Tx {w:World} {S:Nat→Prop} {a:Addr} {ca:Array Value} {ta:TypeId} {er:Nat→Addr} {eb:Nat→Array Value×TypeId} {j:Nat} (hC:cm w S .nilIface (dC er eb)) (ha:cm w S (.pointer (some a)) (.obj (.cells ca ta (0,0)))) (h1:1≤j) (h2:j≤12) :
  Calls Tryz.prog 124 #[.iface 390 (.pointer (some a)),.iface 390 (.pointer (some (er j)))] w fun e w'=>cQ [] w S w' e (.bool (decide (a=er j))) [] []:=by
 by_cases h:a=er j
 ·subst h
  rw[decide_eq_true rfl]
  exact(Er.Kr _ w).mono fun e w' h=>BS h.1 h.2
 ·rw[decide_eq_false h]
  exact(Er.H6 a (er j) ca (eb j).1 ta (eb j).2 w h (DY ha) (DY (hC.part _ (IG er eb h1 h2)))).mono fun e w' h=>BS h.1 h.2
set_option maxHeartbeats 4000000 in
theorem I2 {w:World} {S:Nat→Prop} {a t:Addr} {er:Nat→Addr} {eb:Nat→Array Value×TypeId} (hC:cm w S .nilIface (dC er eb)) :
  Calls Tryz.prog 123 #[.iface 390 (.pointer (some a)),.iface 229 (.pointer (some t))] w fun e w'=>cQ [] w S w' e (.bool false) [] []:=
 (Er.Lb a t w (GR (hC.part _ (ae (i:=12) rfl)))).mono fun e w' h=>zC h.1 (by
  rw[h.2]
  exact(((RowKit.Below.refl _ w).alloc (aX _) _).alloc (by simp) _).alloc (by simp;omega) _) (by rw[h.2];exact aX _)
abbrev Uv (er:Nat→Addr) (k:Nat):List D:=[.v (.iface 390 (.pointer (some (er k))))]
theorem Py {i:Int} (h0:0≤i) (h1:i<12):([1,2,3,4,5,6,7,8,9,10,11,12]:List Nat)[i.toNat]?=some (i.toNat+1):=by
 obtain⟨n,rfl⟩:∃n:Nat,i=n:=⟨i.toNat,by omega⟩
 rcases(by omega:n=0∨n=1∨n=2∨n=3∨n=4∨n=5∨n=6∨n=7∨n=8∨n=9∨n=10∨n=11)with rfl|rfl|rfl|rfl|rfl|rfl|rfl|rfl|rfl|rfl|rfl|rfl <;> rfl
set_option maxHeartbeats 4000000 in
theorem K3 {w:World} {S:Nat→Prop} {er:Nat→Addr} {eb:Nat→Array Value×TypeId} {k:Nat} {v:Value} (hC:cm w S .nilIface (dC er eb)) (hI:RY er) (hk:k≤12) (hv:lq 390 er k v) :
  Calls Tryz.prog 60 #[v] w fun e w'=>cQ [] w S w' e (.tuple #[.int .i64 k,.int .i64 (-1)]) [] []:=by
 rcases hv with ⟨rfl,rfl⟩|⟨h0,rfl⟩
 ·refine jL Tryz.func60 QY (args:=[.nilIface]) (S:=S) (G:=[]) (by kernel_rfl) (.nil _ _) ?_
  refine Zs [zR 0,zR 1] [] [zI 2 0,zI 3 0] ?_
  refine aq ?_
  refine Zs [zR 0,zR 1] [] [zB 8 true] ?_
  refine gR ?_
  refine Zs [zR 0,zR 1] [8] [zI 3 (-1)] ?_
  refine Yr [[],[]] (.tuple #[nI 0,nI (-1)]) fun a w s=>?_
  exact s.ret (by simp) [] [] rfl rfl
 ·refine jL Tryz.func60 QY (args:=[.iface 390 (.pointer (some (er k)))]) (G:=[(_,dC er eb)]) (by kernel_rfl) (.cons hC (.nil _ _)) ?_
  refine bH (ij 0 [0,1,2,3,4,5,6,7,8,9,10,11] rfl rfl) ?_
  refine di 1 rfl (fun ni mW ng dh=>?_)
  refine di 2 rfl (fun uY uq uS gu=>?_)
  refine di 3 rfl (fun IK G2 IB pE=>?_)
  refine di 4 rfl (fun Uy SF Uq DC=>?_)
  refine di 5 rfl (fun XK Wb XA Nn=>?_)
  refine di 6 rfl (fun XJ Wa Xz Nl=>?_)
  refine di 7 rfl (fun XI V' Xy Nk=>?_)
  refine di 8 rfl (fun XH V9 Xx Nj=>?_)
  refine di 9 rfl (fun XG V8 Xw Ni=>?_)
  refine di 10 rfl (fun V2 Vl VX KB=>?_)
  refine di 11 rfl (fun V1 Vk VW KA=>?_)
  refine di 12 rfl (fun V0 Vj VV Kz=>?_)
  try simp only[aQ]
  refine Zs [zR 0,zR 1] [] [zI 2 0,zI 3 0] ?_
  refine aq ?_
  refine Zs [zR 0,zR 1] [] [zB 8 false] ?_
  refine cF ?_
  refine aG ?_
  refine Zs [zR 0] [8] [zI 3 (-1)] ?_
  refine Zv [.wr 0 [] 0] [] [] (fun aN=>[zP 4 (aN 0)]) o0 (fun aN=>[(aN 0,.cells #[.pointer none] 202 (0,0))]) (fun aN=>?_)
  refine aq ?_
  refine jS [(0,true),(1,true),(2,false)] [] ?_
  refine Ya [zR 0,zR 1] [] [zV 9 (.iface 390 (.pointer (some (er k)))),zV 10 (.iface 229 (.pointer (sA (aN 0) 0)))] ?_
  refine Yc 123 #[.iface 390 (.pointer (some (er k))),.iface 229 (.pointer (sA (aN 0) 0))] (some 11) fun w S hG=>?_
  refine(I2 (hG.at 0 rfl)).mono ?_
  rintro e1 w1 hR
  refine⟨_,_,_,hR,?_⟩
  try simp only[aQ]
  refine aC ?_
  refine cF ?_
  refine aG (aq ?_)
  refine Zu [.rd 0 [.r 0 (some (.iface 390 (.pointer (some (er 1)))))] 0 0,.rd 1 [.r 1 (some (.iface 390 (.pointer (some (er 2)))))] 0 0,.rd 2 [.r 2 (some (.iface 390 (.pointer (some (er 3)))))] 0 0,.rd 3 [.r 3 (some (.iface 390 (.pointer (some (er 4)))))] 0 0,.rd 4 [.r 4 (some (.iface 390 (.pointer (some (er 5)))))] 0 0,.rd 5 [.r 5 (some (.iface 390 (.pointer (some (er 6)))))] 0 0,.rd 6 [.r 6 (some (.iface 390 (.pointer (some (er 7)))))] 0 0,.rd 7 [.r 7 (some (.iface 390 (.pointer (some (er 8)))))] 0 0,.rd 8 [.r 8 (some (.iface 390 (.pointer (some (er 9)))))] 0 0,.rd 9 [.r 9 (some (.iface 390 (.pointer (some (er 10)))))] 0 0,.rd 10 [.r 10 (some (.iface 390 (.pointer (some (er 11)))))] 0 0,.rd 11 [.r 11 (some (.iface 390 (.pointer (some (er 12)))))] 0 0,.wr 12 [] 0,zR 13,zR 14] [] [11,9,10,4] (fun dy=>[zS 28 (sA (dy 0) 0) 12 12,zI 29 12,zI 30 0]) o0 (fun dy=>[(dy 0,.cells #[.iface 390 (.pointer (some (er 1))),.iface 390 (.pointer (some (er 2))),.iface 390 (.pointer (some (er 3))),.iface 390 (.pointer (some (er 4))),.iface 390 (.pointer (some (er 5))),.iface 390 (.pointer (some (er 6))),.iface 390 (.pointer (some (er 7))),.iface 390 (.pointer (some (er 8))),.iface 390 (.pointer (some (er 9))),.iface 390 (.pointer (some (er 10))),.iface 390 (.pointer (some (er 11))),.iface 390 (.pointer (some (er 12)))] 26 (0,0))]) (fun dy=>(oC dh (oC gu (oC pE (oC DC (oC Nn (oC Nl (oC Nk (oC Nj (oC Ni (oC KB (oC KA (oC Kz oN))))))))))))) (fun dy=>?_)
  refine aM ?_
  refine ue (size:=1) 1 (Uv er) [1,2,3,4,5,6,7,8,9,10,11,12] 12 rfl (by decide) (by intro x _;rfl) (by simp) ⟨.inl ⟨rfl,rfl⟩,⟨.inl ⟨rfl,rfl⟩,⟨.inl ⟨rfl,rfl⟩,⟨.inl ⟨rfl,rfl⟩,⟨.inl ⟨rfl,rfl⟩,⟨.inl ⟨rfl,rfl⟩,⟨.inl ⟨rfl,rfl⟩,⟨.inl ⟨rfl,rfl⟩,⟨.inl ⟨rfl,rfl⟩,⟨.inl ⟨rfl,rfl⟩,⟨.inl ⟨rfl,rfl⟩,⟨.inl ⟨rfl,rfl⟩,trivial⟩⟩⟩⟩⟩⟩⟩⟩⟩⟩⟩⟩ ?_
  refine cU (fun i:Int=>[zV 0 (.iface 390 (.pointer (some (er k)))),zI 2 0,zI 3 (-1),zS 28 (sA (dy 0) 0) 12 12,zI 29 12,zI 30 i]) (fun i:Int=>[]) (fun i:Int=>[]) (fun i:Int=>[(.nilIface,(dC er eb)),(.slice (sA (dy 0) 0) ((aj (Uv er) [1,2,3,4,5,6,7,8,9,10,11,12]).length) 12,(D.sl 1 (aj (Uv er) [1,2,3,4,5,6,7,8,9,10,11,12])))]) (fun i:Int=>(12 - i).toNat) (fun i:Int=>(0≤i∧i<k)) 0 [0,2,3,28,29,30] [] [] [0,13] ?_ (by kernel_rfl) rfl rfl rfl ?_
  ·exact⟨by omega,by omega⟩
  rintro i ⟨hi0,hi⟩
  have hx:=Py hi0 (by omega)
  refine gr 1 rfl i.toNat (dD hx) (by kernel_rfl) (fun b1 fu uf vi vm ha1 cP=>?_)
  cases ha1
  have cg:=oO (cP 0 _ rfl)
  try simp only[aQ]
  refine Zs [zR 0] [] [zB 31 (decide (i<12))] ?_
  refine aq ?_
  refine Bi (decide (i<12)) (by kernel_rfl) (by kernel_rfl) (by simp;omega) ?_
  refine aG (aq (aM ?_))
  refine Zt [zR 0,.rd 1 [] 0 2,.rd 2 [.r 12 (some (.iface 390 (.pointer (some (er (i.toNat+1))))))] 0 0,zR 3,zR 4] [31] [zI 5 i,zV 6 (.iface 390 (.pointer (some (er (i.toNat+1)))))] (oC hi0 (oC (show i<(↑(12:Nat):Int) from by omega) (oC cg oN))) ?_
  refine jS [(0,true),(1,true),(2,false)] [] ?_
  refine Ya [zR 0,zR 1] [] [zV 35 (.iface 390 (.pointer (some (er k)))),zV 36 (.iface 390 (.pointer (some (er (i.toNat+1)))))] ?_
  refine Yc 124 #[.iface 390 (.pointer (some (er k))),.iface 390 (.pointer (some (er (i.toNat+1))))] (some 37) fun w S hG=>?_
  refine(Tx (hG.at 0 rfl) ((hG.at 0 rfl).part _ (IG er eb (k:=k) (by omega) hk)) (by omega) (by omega)).mono ?_
  rintro e2 w2 hR
  refine⟨_,_,_,hR,?_⟩
  try simp only[aQ]
  refine aC ?_
  refine cC (t:=decide (er k=er (i.toNat+1))) (fun hb=>?_) (fun hb=>?_)
  ·refine aq ?_
   refine Zp ([zR 0,.rd 1 [] 0 1]++bh 2 5) [37] [zI 2 (i+1)] (oC (show IntKind.i64.wrap (i+1)=i+1 from wrap_i64 (by omega) (by omega)) oN) ?_
   refine Yr [[],[]] (.tuple #[nI (i+1),nI (-1)]) fun a w s=>?_
   have e:i+1=k:=by
    have:=hI k (i.toNat+1) (by omega) hk (by omega) (by omega) (of_decide_eq_true hb)
    omega
   rw[e]
   exact s.ret (by simp) [] [] rfl rfl
  ·refine aG ?_
   refine eu ?_
   refine Zp [.rd 0 [] 0 1,zR 1] [37] [zI 30 (i+1)] (oC (show IntKind.i64.wrap (i+1)=i+1 from wrap_i64 (by omega) (by omega)) oN) ?_
   refine bC (i+1) [0,2,3,28,29,30] [] [] [0,1] ?_ ?_ (by kernel_rfl) rfl rfl rfl
   ·refine⟨by omega,?_⟩
    rcases(by omega:i+1<k∨(i.toNat+1=k))with h|h
    ·exact h
    ·rw[h]at hb
     simp at hb
   ·omega
set_option maxHeartbeats 4000000 in
theorem IS {w:World} {S:Nat→Prop} {er:Nat→Addr} {eb:Nat→Array Value×TypeId} {k:Nat} {c:Int} {v:Value} (hC:cm w S .nilIface (dC er eb)) (hI:RY er) (hk:k≤12) (hv:lq 390 er k v) :
  Calls Tryz.prog 13 #[v,.int .i64 c] w fun e w'=>cQ [] w S w' e (.bool (decide ((k:Int)=c))) [] []:=by
 refine jL Tryz.func13 Va (args:=[v,.int .i64 c]) (G:=[(_,dC er eb)]) (by kernel_rfl) (.cons hC (.nil _ _)) ?_
 refine Zs [zR 0] [] [zB 4 false] ?_
 refine jS [(0,true),(1,false),(2,true),(3,true),(4,true),(5,true),(6,true)] [] ?_
 refine Ya [zR 0] [0] [zV 8 v] ?_
 refine Yc 60 #[v] (some 9) fun w S hG=>?_
 refine(K3 (er:=er) (eb:=eb) (k:=k) (hG.at 0 rfl) hI hk hv).mono ?_
 rintro e1 w1 hR
 refine⟨_,_,_,hR,?_⟩
 try simp only[aQ]
 refine Ya (bh 2 7) [9,8] [zI 5 (↑k:Int),zI 6 (-1)] ?_
 refine aC ?_
 refine Zs (bh 0 4++[.rd 4 [] 2 0,.rd 5 [] 2 0,.rd 6 [] 0 3,zR 7]) [5,6,1] [zB 4 ((↑k:Int)==c&&true)] ?_
 refine Yr [[]] (.bool ((↑k:Int)==c&&true)) fun a w s=>?_
 have e:decide ((k:Int)=c)=(decide ((k:Int)=c)&&true):=by simp
 rw[e]
 exact s.ret (by simp) [] [] rfl rfl
end Go.Proofs.YtmkapocibaojdaaGreatDoor
end
section
namespace Go.Proofs.YtmkapocibaojdaaGreatDoor
open Go Go.Sx
def yy (places:Int) (d:gi):Bool:=((((decide (d.place≥0)&&decide (d.place<places))&&decide (d.time≥1))&&decide (d.time≤1099511627776))&&decide (d.no≥0))&&decide (d.no<12)
def mC (o:fP):Bool:=
 if o.kind=1 then o.n==0&&!o.remove&&(o.bF.length:Int)==0
 else if o.kind=2 then o.text.toList==(aL #[]).toList&&!o.remove&&(o.bF.length:Int)==0
 else o.n==0&&(o.remove||(o.bF.length:Int)==0)
def nl (places:Int) (l:List gi):Bool:=l.any fun d=>!yy places d
def fE (o:fP) (places:Int):Nat:=
 if places<1∨6<places∨o.no<0∨12≤o.no then 2
 else if dS o.key=false then 4
 else if o.kind≠1∧o.kind≠2∧o.kind≠3 then 12
 else if mC o=false then 3
 else if 60<o.text.size∨o.n < -1099511627776∨1099511627776<o.n∨60<o.bF.length then 2
 else if nl places o.bF=true then 2
 else 0
abbrev KT (d:gi):Value:=.agg #[.int .i64 d.place,.int .i64 d.time,.int .i64 d.no]
abbrev LH (o:fP) (v:Value):Value:=.agg #[.int .i64 o.no,.string o.key,.int .i64 o.kind,.string o.text,.int .i64 o.n,.bool o.remove,v]
set_option maxHeartbeats 4000000 in
theorem SE {w:World} {S:Nat→Prop} {d:gi} {places:Int}:Calls Tryz.prog 187 #[KT d,.int .i64 places] w fun e w'=>cQ [] w S w' e (.bool (yy places d)) [] []:=by
 refine jL Tryz.func187 Ri (args:=[KT d,.int .i64 places]) (G:=[]) (by kernel_rfl) (gl.nil w S) ?_
 refine Zv [.wr 0 [] 0,zR 1] [] [0] (fun aN=>[zP 2 (aN 0),zB 4 false]) o0 (fun aN=>[(aN 0,.cells #[nI d.place,nI d.time,nI d.no] 177 (0,0))]) (fun aN=>?_)
 refine Zs [zR 0,.rd 1 [.o 0 none] 0 0,zR 2,zR 3,.rd 4 [] 2 0,.rd 5 [.o 0 none] 2 0,.rd 6 [] 2 0,.rd 7 [] 2 0,.rd 8 [] 0 3,zR 9,.rd 10 [] 2 0,.rd 11 [.o 0 none] 2 0,.rd 12 [] 2 0,.rd 13 [] 0 3,zR 14,.rd 15 [] 2 0,.rd 16 [.o 0 none] 2 0,.rd 17 [] 2 0,.rd 18 [] 0 3,zR 19,.rd 20 [] 2 0,.rd 21 [.o 0 none] 2 0,.rd 22 [] 2 0,.rd 23 [] 0 3,zR 24,.rd 25 [] 2 0,.rd 26 [.o 0 none] 2 0,.rd 27 [] 2 0,.rd 28 [] 0 3,zR 29] [2,1] [zB 4 (decide (d.place≥0)&&decide (d.place<places)&&decide (d.time≥1)&&decide (d.time≤1099511627776)&&decide (d.no≥0)&&decide (d.no<12))] ?_
 refine Yr [[]] (.bool (decide (d.place≥0)&&decide (d.place<places)&&decide (d.time≥1)&&decide (d.time≤1099511627776)&&decide (d.no≥0)&&decide (d.no<12))) fun a w s=>?_
 exact s.ret (by simp) [] [] rfl rfl
set_option maxHeartbeats 4000000 in
theorem Mb {w:World} {S:Nat→Prop} {o:fP} {a:Option Addr} {n c:Nat} (h:cm w S (.slice a n c) (.sl 3 (o.bF.map bK))):Calls Tryz.prog 184 #[LH o (.slice a n c)] w fun e w'=>cQ [] w S w' e (.bool (mC o)) [] []:=by
 have e1:=h.pA
 rw[aA]at e1
 subst e1
 refine jL Tryz.func184 Rl (args:=[LH o (.slice a o.bF.length c)]) (G:=[]) (by kernel_rfl) (gl.nil w S) ?_
 by_cases h1:o.kind=1
 ·refine aq ?_
  refine Zm [.wr 0 [] 0,zR 1] [] [0] (fun aN=>[zP 1 (aN 0),zB 2 false]) o0 (fun aN=>[(aN 0,.cells #[nI o.no,.string o.key,nI o.kind,.string o.text,nI o.n,.bool o.remove,.slice a o.bF.length c] 55 (0,0))]) (fun aN=>?_)
  refine aq ?_
  refine Zs [zR 0,.rd 1 [.o 0 none] 0 0] [] [zI 4 o.kind] ?_
  refine aM ?_
  refine Zt [.rd 0 [] 0 6,zR 1] [] [zB 5 true] (oC (show(o.kind==(1:Int))=true from by simp;omega) oN) ?_
  refine gR ?_
  refine Zs [zR 0,.rd 1 [.o 0 none] 0 0,zR 2,zR 3,.rd 4 [] 2 0,.rd 5 [.o 0 none] 2 0,.rd 6 [] 2 0,.rd 7 [] 0 3,zR 8,.rd 9 [] 2 0,.rd 10 [.o 0 none] 2 0,.rd 11 [] 2 0,.rd 12 [] 2 0,.rd 13 [] 0 3,zR 14] [5,4] [zB 2 (o.n==0&&!o.remove&&(↑o.bF.length:Int)==0)] ?_
  refine Yr [[]] (.bool (o.n==0&&!o.remove&&(↑o.bF.length:Int)==0)) fun a w s=>?_
  rw[mC,if_pos h1]
  exact s.ret (by simp) [] [] rfl rfl
 ·by_cases h2:o.kind=2
  ·refine aq ?_
   refine Zm [.wr 0 [] 0,zR 1] [] [0] (fun aN=>[zP 1 (aN 0),zB 2 false]) o0 (fun aN=>[(aN 0,.cells #[nI o.no,.string o.key,nI o.kind,.string o.text,nI o.n,.bool o.remove,.slice a o.bF.length c] 55 (0,0))]) (fun aN=>?_)
   refine aq ?_
   refine Zs [zR 0,.rd 1 [.o 0 none] 0 0] [] [zI 4 o.kind] ?_
   refine aM ?_
   refine Zt [.rd 0 [] 0 7,zR 1] [] [zB 5 false] (oC (show(o.kind==(1:Int))=false from by simp;omega) oN) ?_
   refine cF ?_
   refine Zt [.rd 0 [] 0 6,zR 1] [5,4] [zB 21 true] (oC (show(o.kind==(2:Int))=true from by simp;omega) oN) ?_
   refine gR ?_
   refine Zs [zR 0,.rd 1 [.o 0 none] 0 0,zR 2,zR 3,.rd 4 [] 2 0,.rd 5 [.o 0 none] 2 0,.rd 6 [] 2 0,.rd 7 [] 0 3,zR 8,.rd 9 [] 2 0,.rd 10 [.o 0 none] 2 0,.rd 11 [] 2 0,.rd 12 [] 2 0,.rd 13 [] 0 3,zR 14] [21] [zB 2 (o.text.toList==(aL #[]).toList&&!o.remove&&(↑o.bF.length:Int)==0)] ?_
   refine Yr [[]] (.bool (o.text.toList==(aL #[]).toList&&!o.remove&&(↑o.bF.length:Int)==0)) fun a w s=>?_
   rw[mC,if_neg h1,if_pos h2]
   exact s.ret (by simp) [] [] rfl rfl
  ·by_cases h3:o.n=0
   ·refine aq ?_
    refine Zm [.wr 0 [] 0,zR 1] [] [0] (fun aN=>[zP 1 (aN 0),zB 2 false]) o0 (fun aN=>[(aN 0,.cells #[nI o.no,.string o.key,nI o.kind,.string o.text,nI o.n,.bool o.remove,.slice a o.bF.length c] 55 (0,0))]) (fun aN=>?_)
    refine aq ?_
    refine Zs [zR 0,.rd 1 [.o 0 none] 0 0] [] [zI 4 o.kind] ?_
    refine aM ?_
    refine Zt [.rd 0 [] 0 7,zR 1] [] [zB 5 false] (oC (show(o.kind==(1:Int))=false from by simp;omega) oN) ?_
    refine cF ?_
    refine Zt [.rd 0 [] 0 7,zR 1] [5,4] [zB 21 false] (oC (show(o.kind==(2:Int))=false from by simp;omega) oN) ?_
    refine cF ?_
    refine aG (eu ?_)
    refine Zt [zR 0,.rd 1 [.o 0 none] 0 0,.rd 2 [] 0 6,zR 3,zR 4,.rd 5 [.o 0 none] 0 0,zR 6,.rd 7 [] 2 0,.rd 8 [.o 0 none] 2 0,.rd 9 [] 2 0,.rd 10 [] 2 0,.rd 11 [] 0 3,zR 12,zR 13] [21,1] [zB 2 (o.remove||(↑o.bF.length:Int)==0)] (oC (show(o.n==(0:Int))=true from by simp;omega) oN) ?_
    refine Yr [[]] (.bool (o.remove||(↑o.bF.length:Int)==0)) fun a w s=>?_
    rw[mC,if_neg h1,if_neg h2,show(o.n==0)=true by simpa using h3,Bool.true_and]
    exact s.ret (by simp) [] [] rfl rfl
   ·refine aq ?_
    refine Zm [.wr 0 [] 0,zR 1] [] [0] (fun aN=>[zP 1 (aN 0),zB 2 false]) o0 (fun aN=>[(aN 0,.cells #[nI o.no,.string o.key,nI o.kind,.string o.text,nI o.n,.bool o.remove,.slice a o.bF.length c] 55 (0,0))]) (fun aN=>?_)
    refine aq ?_
    refine Zs [zR 0,.rd 1 [.o 0 none] 0 0] [] [zI 4 o.kind] ?_
    refine aM ?_
    refine Zt [.rd 0 [] 0 7,zR 1] [] [zB 5 false] (oC (show(o.kind==(1:Int))=false from by simp;omega) oN) ?_
    refine cF ?_
    refine Zt [.rd 0 [] 0 7,zR 1] [5,4] [zB 21 false] (oC (show(o.kind==(2:Int))=false from by simp;omega) oN) ?_
    refine cF ?_
    refine aG (eu ?_)
    refine Zt [zR 0,.rd 1 [.o 0 none] 0 0,.rd 2 [] 0 7,zR 3,.rd 4 [] 1 0,.rd 5 [] 1 0,.rd 6 [] 1 0,.rd 7 [] 1 0,.rd 8 [] 1 0,.rd 9 [] 1 0,.rd 10 [] 1 0,.rd 11 [] 1 0,zR 12,zR 13] [21,1] [] (oC (show(o.n==(0:Int))=false from by simp;omega) oN) ?_
    refine Yr [[]] (.bool false) fun a w s=>?_
    rw[mC,if_neg h1,if_neg h2,show(o.n==0)=false by simpa using h3,Bool.false_and]
    exact s.ret (by simp) [] [] rfl rfl
theorem HK {o:fP} {places:Int} (h1:¬(places<1∨6<places∨o.no<0∨12≤o.no)) (h2:dS o.key=true) (h3:o.kind=1∨o.kind=2∨o.kind=3) (h4:mC o=true):fE o places=if 60<o.text.size∨o.n < -1099511627776∨1099511627776<o.n∨60<o.bF.length then 2 else if nl places o.bF=true then 2 else 0:=by
 unfold fE
 rw[if_neg h1,if_neg (by simp[h2]),if_neg (by omega),if_neg (by simp[h4])]
theorem Ka {o:fP} {places:Int} (h1:¬(places<1∨6<places∨o.no<0∨12≤o.no)) (h2:dS o.key=true) (h3:o.kind=1∨o.kind=2∨o.kind=3) (h4:mC o=false):fE o places=3:=by
 unfold fE
 rw[if_neg h1,if_neg (by simp[h2]),if_neg (by omega),if_pos h4]
theorem PD {x:Bool} (h:(!x)=false):x=true:=by cases x <;> simp_all
end Go.Proofs.YtmkapocibaojdaaGreatDoor
namespace Go.Proofs.YtmkapocibaojdaaGreatDoor
open Go Go.Sx
set_option maxHeartbeats 4000000 in
theorem uD {w:World} {S:Nat→Prop} {b:Nat} {x:Value} {ty:TypeId} {fz:Nat×Nat} (h:cm w S (.pointer (some ⟨b,0,none⟩)) (.obj (.cells #[x] ty fz))) (hx:x.oneCell'=true):cm w S (.pointer (some ⟨b,0,none⟩)) (.ptr [.v x]):=by
 cases h with
 | obj hb hS=>
  refine .ptr (fun _=>x) hb hS (fun j hj=>?_) (fun j d hj=>?_)
  ·obtain rfl:j=0:=by simpa using hj
   rfl
  ·match j,hj with
   | 0,hj=>
    simp only[aV,az]at hj
    subst hj
    exact .v hx
   | j+1,hj=>simp at hj
set_option maxHeartbeats 4000000 in
theorem K5 {w:World} {S:Nat→Prop} {d:gi} {places:Int} {b:Nat} (h:cm w S (.pointer (some ⟨b,0,none⟩)) (.ptr [.v (.int .i64 places)])):Calls Tryz.prog 186 #[KT d,.pointer (some ⟨b,0,none⟩)] w fun e w'=>cQ [] w S w' e (.bool (!yy places d)) [] []:=by
 refine jL Tryz.func186 Rj (args:=[KT d,.pointer (some ⟨b,0,none⟩)]) (G:=[(_,.ptr [.v (.int .i64 places)])]) (by kernel_rfl) (.cons h (.nil _ _)) ?_
 refine di 0 rfl (fun ni mW ng dh=>?_)
 refine Zv [.wr 0 [] 0,zR 1] [] [0] (fun aN=>[zP 2 (aN 0),zB 3 false]) o0 (fun aN=>[(aN 0,.cells #[nI d.place,nI d.time,nI d.no] 177 (0,0))]) (fun aN=>?_)
 refine jS [(0,true),(1,true),(2,false),(3,true),(4,true)] [] ?_
 refine Yp [.rd 0 (ek 0 3) 0 0,.rd 1 [.r 0 (some (nI places))] 0 0] [2,1] [zV 4 (.agg #[nI d.place,nI d.time,nI d.no]),zI 5 places] (oC dh oN) ?_
 refine Yc 187 #[.agg #[nI d.place,nI d.time,nI d.no],nI places] (some 6) fun w S hG=>?_
 refine(SE (w:=w) (S:=S)).mono ?_
 rintro e1 w1 hR
 refine⟨_,_,_,hR,?_⟩
 try simp only[aQ]
 refine Ya [zR 3,zR 4] [6,4,5] [zB 3 (!yy places d)] ?_
 refine aC ?_
 refine Yr [[]] (.bool (!yy places d)) fun a w s=>?_
 exact s.ret (by simp) [] [] rfl rfl
set_option maxHeartbeats 4000000 in
theorem FN {w:World} {S:Nat→Prop} {a:Option Addr} {n c:Nat} {l:List gi} {places:Int} {b:Nat} (h:cm w S (.slice a n c) (.sl 3 (l.map bK))) (hl:l.length≤1000000) (hp:cm w S (.pointer (some ⟨b,0,none⟩)) (.ptr [.v (.int .i64 places)])) :
  Calls Tryz.prog 215 #[.slice a n c,.func (.func 186) #[] #[.pointer (some ⟨b,0,none⟩)]] w fun e w'=>∃r,cQ [] w S w' e (.int .i64 r) [] []∧decide (0≤r)=nl places l:=by
 have e1:=h.pA
 rw[aA]at e1
 subst e1
 refine jL Tryz.func215 Q3 (args:=[.slice a l.length c,.func (.func 186) #[] #[.pointer (some ⟨b,0,none⟩)]]) (G:=[(_,.sl 3 (l.map bK)),(_,.ptr [.v (.int .i64 places)])]) (by kernel_rfl) (.cons h (.cons hp (.nil _ _))) ?_
 refine Zs [zR 0] [] [zI 4 0] ?_
 refine aq ?_
 refine Zs (bh 0 3) [] [zI 7 (↑l.length:Int),zI 8 0] ?_
 refine aM ?_
 refine cU (fun i:Int=>[zS 0 a l.length c,zV 1 (.func (.func 186) #[] #[.pointer (sA b 0)]),zI 4 0,zI 7 (↑l.length:Int),zI 8 i]) (fun i:Int=>[]) (fun i:Int=>[]) (fun i:Int=>[(.slice a l.length c,(D.sl 3 (aj bK l))),(.pointer (sA b 0),(D.ptr [D.v (nI places)]))]) (fun i:Int=>(l.length - i).toNat) (fun i:Int=>(0≤i∧i≤l.length∧∀j:Nat,j<i.toNat→∀d,l[j]?=some d→yy places d=true)) 0 [0,1,4,7,8] [] [] [0,1] ?_ (by kernel_rfl) rfl rfl rfl ?_
 ·exact⟨by simp,by omega,by simp⟩
 rintro i ⟨hi0,hi,hno⟩
 refine Zs [zR 0] [] [zB 9 (decide (i<(↑l.length:Int)))] ?_
 refine aq ?_
 refine cC (t:=decide (i<(↑l.length:Int))) (fun hlt=>?_) (fun hlt=>?_)
 ·have fa:i<l.length:=by simpa using hlt
  obtain⟨x,hx⟩:∃x,l[i.toNat]?=some x:=⟨_,ak (by omega)⟩
  refine gr 0 rfl i.toNat (dD hx) (by kernel_rfl) (fun b1 fu uf vi vm ha1 cP=>?_)
  cases ha1
  have cg:=oO (cP 0 _ rfl)
  have gJ:=cP 1 _ rfl
  have gV:=cP 2 _ rfl
  try simp only[aQ]
  refine aG (aq (aM ?_))
  refine Zs [zR 0,zR 1] [9] [zI 5 i] ?_
  refine jS [(0,true),(1,true),(2,true),(3,true),(4,true),(5,false)] [] ?_
  refine Yp (bh 0 3++[.rd 3 [] 0 2,.rd 4 [.r 0 (some (nI x.place)),.r 0 (some (nI x.time)),.r 0 (some (nI x.no))] 0 0]) [] [zV 11 (.func (.func 186) #[] #[.pointer (sA b 0)]),zV 15 (.agg #[nI x.place,nI x.time,nI x.no])] (oC hi0 (oC fa (oC cg (oC gJ (oC gV oN))))) ?_
  refine Yc 186 #[.agg #[nI x.place,nI x.time,nI x.no],.pointer (sA b 0)] (some 16) fun w S hG=>?_
  refine(K5 (d:=x) (hG.at 1 rfl)).mono ?_
  rintro e w2 hR
  refine⟨_,_,_,hR,?_⟩
  try simp only[aQ]
  refine aC ?_
  refine cC (t:=!yy places x) (fun hb=>?_) (fun hb=>?_)
  ·refine aq ?_
   refine Za [zR 0,zR 1] [16] [zI 4 i] ?_
   refine Yr [[]] (nI i) fun a w s=>?_
   refine⟨_,s.ret (by simp) [] [] rfl rfl,?_⟩
   rw[show nl places l=true from gL.2 ⟨x,ae hx,hb⟩]
   simpa using hi0
  ·refine aG ?_
   refine eu ?_
   refine Zp [.rd 0 [] 0 1,zR 1] [16] [zI 8 (i+1)] (oC (show IntKind.i64.wrap (i+1)=i+1 from wrap_i64 (by omega) (by omega)) oN) ?_
   refine bC (i+1) [0,1,4,7,8] [] [] [0,1] ?_ ?_ (by kernel_rfl) rfl rfl rfl
   ·refine⟨by omega,by omega,fun j hj t ht=>?_⟩
    by_cases uO:j=i.toNat
    ·subst uO
     rw[hx]at ht
     cases ht
     exact PD hb
    ·exact hno j (by omega) t ht
   ·omega
 ·refine dO rfl ?_
  refine Zs [zR 0] [9,0,1,7,8] [zI 4 (-1)] ?_
  refine Yr [[]] (nI (-1)) fun a w s=>?_
  refine⟨_,s.ret (by simp) [] [] rfl rfl,?_⟩
  have e:nl places l=false:=by
   unfold nl
   rw[List.any_eq_false]
   intro t ht
   obtain⟨j,hj⟩:=aJ ht
   have oP:=(ai.1 hj).1
   simp[hno j (by simp at hlt;omega) t hj]
  rw[e]
  decide
set_option maxHeartbeats 4000000 in
theorem A8 {w:World} {S:Nat→Prop} {a:Option Addr} {n c:Nat} {l:List gi} {places:Int} {b:Nat} (h:cm w S (.slice a n c) (.sl 3 (l.map bK))) (hl:l.length≤1000000) (hp:cm w S (.pointer (some ⟨b,0,none⟩)) (.ptr [.v (.int .i64 places)])) :
  Calls Tryz.prog 185 #[.slice a n c,.func (.func 186) #[] #[.pointer (some ⟨b,0,none⟩)]] w fun e w'=>cQ [] w S w' e (.bool (nl places l)) [] []:=by
 refine jL Tryz.func185 Rk (args:=[.slice a n c,.func (.func 186) #[] #[.pointer (some ⟨b,0,none⟩)]]) (G:=[(_,.sl 3 (l.map bK)),(_,.ptr [.v (.int .i64 places)])]) (by kernel_rfl) (.cons h (.cons hp (.nil _ _))) ?_
 refine Zs [zR 0] [] [zB 4 false] ?_
 refine jS [(0,true),(1,true),(2,false),(3,true),(4,true)] [] ?_
 refine Ya [zR 0,zR 1] [0,1] [zS 5 a n c,zV 6 (.func (.func 186) #[] #[.pointer (sA b 0)])] ?_
 refine Yc 215 #[.slice a n c,.func (.func 186) #[] #[.pointer (sA b 0)]] (some 7) fun w S hG=>?_
 refine(FN (hG.at 0 rfl) hl (hG.at 1 rfl)).mono ?_
 rintro e w2 ⟨r,hR,hr⟩
 refine⟨_,_,_,hR,?_⟩
 try simp only[aQ]
 refine Ya [zR 3,zR 4] [7,5,6] [zB 4 (decide (r≥0))] ?_
 refine aC ?_
 refine Yr [[]] (.bool (decide (r≥0))) fun a w s=>?_
 rw[←hr]
 exact s.ret (by simp) [] [] rfl rfl
set_option maxHeartbeats 4000000 in
theorem w9 {w:World} {S:Nat→Prop} {er:Nat→Addr} {eb:Nat→Array Value×TypeId} {o:fP} {a:Option Addr} {n c:Nat} {places:Int} (hC:cm w S .nilIface (dC er eb)) (h:cm w S (.slice a n c) (.sl 3 (o.bF.map bK))) :
  Calls Tryz.prog 144 #[LH o (.slice a n c),.int .i64 places] w fun e w'=>∃v,cQ [] w S w' e v [] []∧lq 390 er (fE o places) v:=by
 have e1:=h.pA
 rw[aA]at e1
 subst e1
 refine jL Tryz.func144 RH (args:=[LH o (.slice a o.bF.length c),.int .i64 places]) (G:=[(_,dC er eb),(_,.sl 3 (o.bF.map bK))]) (by kernel_rfl) (.cons hC (.cons h (.nil _ _))) ?_
 refine bH (ij 0 [1,2,3,11] rfl rfl) ?_
 refine di 2 rfl (fun ni mW ng dh=>?_)
 refine di 3 rfl (fun uY uq uS gu=>?_)
 refine di 4 rfl (fun IK G2 IB pE=>?_)
 refine di 5 rfl (fun Uy SF Uq DC=>?_)
 try simp only[aQ]
 refine Zv [.wr 0 [] 0,.wr 1 [] 0,zR 2] [] [0,1] (fun aN=>[zP 2 (aN 0),zP 3 (aN 1),zV 4 .nilIface]) o0 (fun aN=>[(aN 0,.cells #[nI o.no,.string o.key,nI o.kind,.string o.text,nI o.n,.bool o.remove,.slice a o.bF.length c] 55 (0,0)),(aN 1,.cells #[nI places] 3 (0,0))]) (fun aN=>?_)
 refine aq (aM ?_)
 refine Zs [.rd 0 [.o 1 none] 0 0,zR 1,zR 2,.rd 3 [.o 1 none] 2 0,.rd 4 [] 2 0,.rd 5 [] 0 3,zR 6,.rd 7 [] 2 0,.rd 8 [.o 0 none] 2 0,.rd 9 [] 2 0,.rd 10 [] 0 3,zR 11,.rd 12 [] 2 0,.rd 13 [.o 0 none] 2 0,.rd 14 [] 2 0,.rd 15 [] 0 3,zR 16] [] [zB 5 (decide (places<1)||decide (places>6)||decide (o.no<0)||decide (o.no≥12))] ?_
 refine cC (t:=decide (places<1)||decide (places>6)||decide (o.no<0)||decide (o.no≥12)) (fun hb=>?_) (fun hb=>?_)
 ·have e:fE o places=2:=by rw[fE,if_pos (by simp at hb;omega)]
  refine Zt [.rd 0 [.r 0 (some (.iface 390 (.pointer (some (er 2)))))] 0 0,zR 1] [5,2,3] [zV 4 (.iface 390 (.pointer (some (er 2))))] (oC dh oN) ?_
  refine Yr [[]] (.iface 390 (.pointer (some (er 2)))) fun a w s=>?_
  rw[e]
  exact⟨_,s.ret (by simp) [] [] rfl rfl,.inr ⟨by decide,rfl⟩⟩
 have oQ:¬(places<1∨6<places∨o.no<0∨12≤o.no):=by simp at hb;omega
 refine jS [(0,true),(1,true),(2,false),(3,true),(4,true)] [] ?_
 refine Ya [zR 0,.rd 1 [.o 0 none] 0 0] [5] [zV 25 (.string o.key)] ?_
 refine Yc 154 #[.string o.key] (some 26) fun w S hG=>?_
 refine(Bw (w:=w) (S:=S) (s0:=o.key)).mono ?_
 rintro e1 w1 hR
 refine⟨_,_,_,hR,?_⟩
 cases hname:dS o.key with
 | false=>
  have e:fE o places=4:=by rw[fE,if_neg oQ,if_pos hname]
  try simp only[aQ]
  refine Ya [zR 3,zR 4] [26,25] [zB 23 true] ?_
  refine aC ?_
  refine gR ?_
  refine Zt [.rd 0 [.r 2 (some (.iface 390 (.pointer (some (er 4)))))] 0 0,zR 1] [23,2,3] [zV 4 (.iface 390 (.pointer (some (er 4))))] (oC pE oN) ?_
  refine Yr [[]] (.iface 390 (.pointer (some (er 4)))) fun a w s=>?_
  rw[e]
  exact⟨_,s.ret (by simp) [] [] rfl rfl,.inr ⟨by decide,rfl⟩⟩
 | true=>
  try simp only[aQ]
  refine Ya [zR 3,zR 4] [26,25] [zB 23 false] ?_
  refine aC ?_
  refine cF ?_
  refine Zs [zR 0,.rd 1 [.o 0 none] 0 0,zR 2,zR 3,.rd 4 [] 2 0,.rd 5 [.o 0 none] 2 0,.rd 6 [] 2 0,.rd 7 [] 0 3,zR 8,.rd 9 [] 2 0,.rd 10 [.o 0 none] 2 0,.rd 11 [] 2 0,.rd 12 [] 0 3,zR 13] [23] [zB 29 (o.kind != 1&&o.kind != 2&&o.kind != 3)] ?_
  refine cC (t:=o.kind != 1&&o.kind != 2&&o.kind != 3) (fun hk=>?_) (fun hk=>?_)
  ·have e:fE o places=12:=by rw[fE,if_neg oQ,if_neg (by simp[hname]),if_pos (by simp at hk;omega)]
   refine Zt [.rd 0 [.r 3 (some (.iface 390 (.pointer (some (er 12)))))] 0 0,zR 1] [29,2,3] [zV 4 (.iface 390 (.pointer (some (er 12))))] (oC DC oN) ?_
   refine Yr [[]] (.iface 390 (.pointer (some (er 12)))) fun a w s=>?_
   rw[e]
   exact⟨_,s.ret (by simp) [] [] rfl rfl,.inr ⟨by decide,rfl⟩⟩
  have JC:o.kind=1∨o.kind=2∨o.kind=3:=by simp at hk;omega
  refine jS [(0,true),(1,false),(2,true),(3,true)] [] ?_
  refine Ya [.rd 0 (ek 0 7) 0 0] [29] [zV 45 (.agg #[nI o.no,.string o.key,nI o.kind,.string o.text,nI o.n,.bool o.remove,.slice a o.bF.length c])] ?_
  refine Yc 184 #[.agg #[nI o.no,.string o.key,nI o.kind,.string o.text,nI o.n,.bool o.remove,.slice a o.bF.length c]] (some 46) fun w S hG=>?_
  refine(Mb (o:=o) (hG.at 1 rfl)).mono ?_
  rintro e1 w1 hR
  refine⟨_,_,_,hR,?_⟩
  cases hsh:mC o with
  | false=>
   rw[Ka oQ hname JC hsh]
   try simp only[aQ]
   refine Ya [zR 2,zR 3] [46,45] [zB 44 true] ?_
   refine aC ?_
   refine gR ?_
   refine Zt [.rd 0 [.r 1 (some (.iface 390 (.pointer (some (er 3)))))] 0 0,zR 1] [44,2,3] [zV 4 (.iface 390 (.pointer (some (er 3))))] (oC gu oN) ?_
   refine Yr [[]] (.iface 390 (.pointer (some (er 3)))) fun a w s=>?_
   exact⟨_,s.ret (by simp) [] [] rfl rfl,.inr ⟨by decide,rfl⟩⟩
  | true=>
   rw[HK oQ hname JC hsh]
   try simp only[aQ]
   refine Ya [zR 2,zR 3] [46,45] [zB 44 false] ?_
   refine aC ?_
   refine cF ?_
   refine Zs ([zR 0,.rd 1 [.o 0 none] 0 0]++bh 2 5++[.rd 5 [] 2 0,.rd 6 [.o 0 none] 2 0,.rd 7 [] 2 0,.rd 8 [] 0 3,zR 9,.rd 10 [] 2 0,.rd 11 [.o 0 none] 2 0,.rd 12 [] 2 0,.rd 13 [] 0 3,zR 14,.rd 15 [] 2 0,.rd 16 [.o 0 none] 2 0,.rd 17 [] 2 0,.rd 18 [] 2 0,.rd 19 [] 0 3,zR 20]) [44] [zB 49 (decide ((↑o.text.size:Int)>60)||decide (o.n < -1099511627776)||decide (o.n>1099511627776)||decide ((↑o.bF.length:Int)>60))] ?_
   refine cC (t:=decide ((↑o.text.size:Int)>60)||decide (o.n < -1099511627776)||decide (o.n>1099511627776)||decide ((↑o.bF.length:Int)>60)) (fun KH=>?_) (fun KH=>?_)
   ·rw[if_pos (by simp at KH;omega)]
    refine Zt [.rd 0 [.r 0 (some (.iface 390 (.pointer (some (er 2)))))] 0 0,zR 1] [49,2,3] [zV 4 (.iface 390 (.pointer (some (er 2))))] (oC dh oN) ?_
    refine Yr [[]] (.iface 390 (.pointer (some (er 2)))) fun a w s=>?_
    exact⟨_,s.ret (by simp) [] [] rfl rfl,.inr ⟨by decide,rfl⟩⟩
   rw[if_neg (by simp at KH;omega)]
   have JF:o.bF.length≤1000000:=by simp at KH;omega
   refine aq ?_
   refine ve 1 rfl ?_
   refine bH (fB (v:=.pointer (some ⟨aN 1,0,none⟩)) (d:=.ptr [.v (.int .i64 places)]) fun w S H=>uD (H _ (ae (i:=6) rfl)) rfl) ?_
   try simp only[aQ]
   refine jT [(0,true),(1,true),(2,true),(3,false),(4,true)] [] ?_
   refine Ya [zR 0,.rd 1 [.o 0 none] 0 0,zR 2] [49,2,3] [zS 73 a o.bF.length c,zV 74 (.func (.func 186) #[] #[.pointer (sA (aN 1) 0)])] ?_
   refine Yc 185 #[.slice a o.bF.length c,.func (.func 186) #[] #[.pointer (sA (aN 1) 0)]] (some 75) fun w S hG=>?_
   refine(A8 (hG.at 1 rfl) JF (hG.at 7 rfl)).mono ?_
   rintro e1 w1 hR
   refine⟨_,_,_,hR,?_⟩
   cases hbd:nl places o.bF with
   | true=>
    try simp only[aQ]
    refine Ya [zR 4] [75,73,74] [zB 71 true] ?_
    refine aC ?_
    refine gR ?_
    refine Zt [.rd 0 [.r 0 (some (.iface 390 (.pointer (some (er 2)))))] 0 0,zR 1] [71] [zV 4 (.iface 390 (.pointer (some (er 2))))] (oC dh oN) ?_
    refine Yr [[]] (.iface 390 (.pointer (some (er 2)))) fun a w s=>?_
    exact⟨_,s.ret (by simp) [] [] rfl rfl,.inr ⟨by decide,rfl⟩⟩
   | false=>
    try simp only[aQ]
    refine Ya [zR 4] [75,73,74] [zB 71 false] ?_
    refine aC ?_
    refine cF ?_
    refine aG (eu ?_)
    refine Zs [zR 0] [71] [] ?_
    refine Yr [[]] (.nilIface) fun a w s=>?_
    exact⟨_,s.ret (by simp) [] [] rfl rfl,.inl ⟨rfl,rfl⟩⟩
end Go.Proofs.YtmkapocibaojdaaGreatDoor
end
section
namespace Go.Proofs.YtmkapocibaojdaaGreatDoor
open Go Go.Sx
set_option maxHeartbeats 4000000 in
theorem Df {w:World} {b:Nat} {old x:Value} {ty:TypeId} {fz:Nat×Nat} (h:w.heap[b]?=some (.cells #[old] ty fz)):(w.setCell ⟨b,0,none⟩ x).heap[b]?=some (.cells #[x] ty fz):=by
 simp[World.setCell,fV,h,Array.setIfInBounds]
set_option maxHeartbeats 4000000 in
theorem sH {w:World} {o o':Obj} {b:Nat} (h:w.heap[b]?=some o):(w.alloc o').heap[b]?=some o:=by
 rw[RowKit.Below.heap_alloc _ _ _ (bJ.1 h).1]
 exact h
set_option maxHeartbeats 4000000 in
theorem RU {w:World} {S:Nat→Prop} {M:List Nat} {p:Addr} {t:Nat} {old:Value} {ty:TypeId} {er:Nat→Addr} {eb:Nat→Array Value×TypeId} (hC:cm w S .nilIface (dC er eb)) (hp:Pre w S M [bL t (.cells #[old] ty (0,0))]) :
  Calls Tryz.prog 123 #[.iface 202 (.pointer (some p)),.iface 229 (.pointer (some ⟨t,0,none⟩))] w fun e w'=>cQ M w S w' e (.bool true) [bL t (.cells #[.pointer (some p)] ty (0,0))] []:=by
 obtain⟨aU,hch,rfl,hnd,hM⟩:=hp
 match aU,hch with
 | [fp],⟨⟨og,hb⟩,_⟩=>
  subst og
  have hl:=(bJ.1 hb).1
  refine(Er.NN p ⟨t,0,none⟩ old w (GR (hC.part _ (ae (i:=12) rfl))) (by simp[World.cell?,hb]) (by simp[World.frozen?,hb])).mono ?_
  rintro e w' ⟨he,rfl⟩
  have AZ:=(((RowKit.Below.refl _ w).alloc (aX _) (.cells #[.pointer (some ⟨t,0,none⟩)] 229)).alloc (by simp) (.cells #[.pointer (some ⟨13,229,none⟩),.pointer (some ⟨w.heap.size,0,none⟩),.int .u64 150] 285)).alloc (by simp;omega) (.cells #[.pointer (some ⟨13,229,none⟩),.pointer (some ⟨w.heap.size,0,none⟩),.int .u64 150] 285) |>.alloc (by simp;omega) (.cells #[.pointer (some p)] 202)
  refine⟨he,⟨AZ.os,AZ.tape,AZ.output,by simpa [World.setCell]using AZ.size,fun b Xa hn=>?_,aX _⟩,[[t]],⟨⟨rfl,?_⟩,trivial⟩,by simp,fun b hb'=>?_,by simp⟩
  ·rw[RowKit.Below.heap_setCell _ _ _ _ (by simpa using hn)]
   exact AZ.block b Xa
  ·exact Df (sH (sH (sH (sH hb))))
  ·obtain rfl:b=t:=by simpa using hb'
   refine⟨.inl (by simp),?_⟩
   simp[World.setCell]
   omega
 | [],h=>exact h.elim
 | _::_::_,h=>exact h.2.elim
set_option maxHeartbeats 4000000 in
theorem l6 {w:World} {S:Nat→Prop} {b:Nat} {x y:Value} {ty:TypeId} {fz:Nat×Nat} (hx:x.oneCell'=true) (hy:y.oneCell'=true) (h:cm w S (.pointer (some ⟨b,0,none⟩)) (.obj (.cells #[x,y] ty fz))):cm w S (.pointer (some ⟨b,0,none⟩)) (.ptr [.v x,.v y]):=by
 cases h with
 | obj hb hS=>
  refine .ptr (fun j=>(#[x,y]:Array Value).getD j .nilIface) hb hS (fun j hj=>?_) fun j d hj=>?_
  ·match j,hj with
   | 0,_=>rfl
   | 1,_=>rfl
   | j+2,hj=>exact absurd hj (by simp)
  ·match j,hj with
   | 0,hj=>cases hj;exact .v hx
   | 1,hj=>cases hj;exact .v hy
   | j+2,hj=>simp at hj
end Go.Proofs.YtmkapocibaojdaaGreatDoor
end
section
namespace Go.Proofs.YtmkapocibaojdaaGreatDoor
open Go Go.Sx
def ik (l:List fP) (places:Int) (i:Nat):Nat:=
 match l[i]? with
 | none=>0
 | some o=>if fE o places≠0 then fE o places else match i,l[i - 1]? with
   | _+1,some p=>if o.no≤p.no then 3 else 0
   | _,_=>0
structure FT where
 code:Nat
 at':Int
def j5 (l:List fP) (places:Int):Nat→Nat→FT
 | 0,_=>⟨0,-1⟩
 | n+1,i=>if ik l places i=0 then j5 l places n (i+1)else ⟨ik l places i,i⟩
def aY (c:bO):FT:=
 if b8 c.when≠0 then ⟨b8 c.when,-1⟩
 else if c.place<0∨c.when.length≤c.place∨12<c.ops.length then ⟨2,-1⟩
 else if c.when[c.place.toNat]?=some 0 then ⟨2,-1⟩
 else if c.ops.length=0 then ⟨3,-1⟩
 else j5 c.ops c.when.length c.ops.length 0
theorem kf {l:List fP} {places:Int}:∀(n k i:Nat),k≤i→(∀j,k≤j→j<i→ik l places j=0)→(i=k+n→j5 l places n k=⟨0,-1⟩)∧(i<k+n→ik l places i≠0→j5 l places n k=⟨ik l places i,i⟩)
 | 0,k,i,hk,_=>⟨fun _=>rfl,fun h=>by omega⟩
 | n+1,k,i,hk,h=>by
  rcases Nat.eq_or_lt_of_le hk with rfl|hlt
  ·refine⟨fun he=>by omega,fun _ hne=>?_⟩
   rw[j5,if_neg hne]
  ·obtain⟨h1,h2⟩:=kf n (k+1) i hlt fun j JD hj2=>h j (by omega) hj2
   rw[j5,if_pos (h k (aX _) hlt)]
   exact⟨fun he=>h1 (by omega),fun he=>h2 (by omega)⟩
theorem o7 {l:List fP} {p:Int} {i:Nat} {o:fP} (h:l[i]?=some o) (he:fE o p≠0):ik l p i=fE o p:=by
 unfold ik
 simp only[h,if_pos he]
theorem sV {l:List fP} {p:Int} {o:fP} (h:l[0]?=some o) (he:fE o p=0):ik l p 0=0:=by
 unfold ik
 simp[h,he]
theorem uC {l:List fP} {p:Int} {i:Nat} {o q:fP} (h:l[i+1]?=some o) (hq:l[i]?=some q) (he:fE o p=0):ik l p (i+1)=if o.no≤q.no then 3 else 0:=by
 unfold ik
 simp[h,hq,he]
end Go.Proofs.YtmkapocibaojdaaGreatDoor
namespace Go.Proofs.YtmkapocibaojdaaGreatDoor
open Go Go.Sx
def Vh (w:World) (S:Nat→Prop) (w':World) (e:Ending) (er:Nat→Addr) (f:FT):Prop:=
 (f.at' = -1∧∃v,cQ [] w S w' e v [] []∧lq 390 er f.code v) ∨
 (1≤f.code∧0≤f.at'∧∃pb,cQ [] w S w' e (.iface 202 (.pointer (some ⟨pb,0,none⟩))) [] [(.pointer (some ⟨pb,0,none⟩),.ptr [.v (.int .i64 f.at'),.v (.iface 390 (.pointer (some (er f.code))))])])
set_option maxHeartbeats 2000000 in
theorem pg {w:World} {S:Nat→Prop} {er:Nat→Addr} {eb:Nat→Array Value×TypeId} {a1 a2:Option Addr} {n1 c1 n2 c2:Nat} {c:bO} (hC:cm w S .nilIface (dC er eb)) (h1:cm w S (.slice a1 n1 c1) (aS c.when)) (h2:cm w S (.slice a2 n2 c2) (.sl 7 (c.ops.map fe))) (ja:c.when.length≤1000000) (kS:c.ops.length≤1000000) :
  Calls Tryz.prog 85 #[.agg #[.slice a1 n1 c1,.int .i64 c.place,.slice a2 n2 c2]] w fun e w'=>Vh w S w' e er (aY c):=by
 obtain rfl:=dJ h1
 have e2:=h2.pA
 rw[aA]at e2
 subst e2
 refine jL Tryz.func85 UN (args:=[.agg #[.slice a1 c.when.length c1,.int .i64 c.place,.slice a2 c.ops.length c2]]) (G:=[(_,dC er eb),(_,aS c.when),(_,.sl 7 (c.ops.map fe))]) (by kernel_rfl) (.cons hC (.cons h1 (.cons h2 (.nil _ _)))) ?_
 refine bH (ij 0 [1,2] rfl rfl) ?_
 refine di 3 rfl (fun ni mW ng dh=>?_)
 refine di 4 rfl (fun uY uq uS gu=>?_)
 try simp only[aQ]
 refine Zv [.wr 0 [] 0,zR 1] [] [0] (fun aN=>[zP 1 (aN 0),zV 2 .nilIface]) o0 (fun aN=>[(aN 0,.cells #[.slice a1 c.when.length c1,nI c.place,.slice a2 c.ops.length c2] 35 (0,0))]) (fun aN=>?_)
 refine aq ?_
 refine jS [(0,true),(1,true),(2,false),(3,true)] [] ?_
 refine Ya [zR 0,.rd 1 [.o 0 none] 0 0] [] [zS 8 a1 c.when.length c1] ?_
 refine Yc 141 #[.slice a1 c.when.length c1] (some 9) fun w S hG=>?_
 refine(vp (kL (hG.at 0 rfl)) (hG.at 1 rfl) ja).mono ?_
 rintro e1 w1 ⟨v,hR,hv⟩
 refine⟨_,_,_,hR,?_⟩
 obtain⟨nc,rfl⟩|⟨nc,rfl⟩:=hv
 ·try simp only[aQ]
  refine Ya [zR 3] [9,8] [zV 3 .nilIface] ?_
  refine aC ?_
  refine Zs [zR 0,zR 1] [] [zB 11 false] ?_
  refine cF ?_
  refine aG (aq (aq ?_))
  by_cases hb:c.place<0∨c.when.length≤c.place
  ·have e:aY c=⟨2,-1⟩:=by rw[aY,if_neg (by simp[nc]),if_pos (by omega)]
   rcases(by omega:c.place<0∨(0≤c.place∧c.when.length≤c.place))with GI|⟨GI,oQ⟩
   ·refine Zp [.rd 0 [] 0 0,.rd 1 [.o 0 none] 0 0,.rd 2 [] 0 6,.rd 3 [] 0 0,.rd 4 [] 1 0,.rd 5 [] 1 0,.rd 6 [] 1 0,.rd 7 [] 1 0,.rd 8 [] 1 0,.rd 9 [] 1 0,.rd 10 [] 0 0,.rd 11 [] 0 0,.rd 12 [] 1 0,.rd 13 [] 1 0,.rd 14 [] 1 0,.rd 15 [] 1 0,.rd 16 [] 1 0,.rd 17 [] 1 0,.rd 18 [] 1 0,.rd 19 [] 0 0,.rd 20 [] 0 0,.rd 21 [] 1 0,.rd 22 [] 1 0,.rd 23 [] 1 0,.rd 24 [] 1 0,.rd 25 [] 0 0] [11,3] [(38,.val (.bool true))] (oC (show decide (c.place<(0:Int))=true from by simp;omega) oN) ?_
    refine gR ?_
    refine Zt [.rd 0 [.r 0 (some (.iface 390 (.pointer (some (er 2)))))] 0 0,zR 1] [38] [zV 2 (.iface 390 (.pointer (some (er 2))))] (oC dh oN) ?_
    refine Yr [[]] (.iface 390 (.pointer (some (er 2)))) fun a w s=>?_
    rw[e]
    exact .inl ⟨rfl,_,s.ret (by simp) [] [] rfl rfl,.inr ⟨by decide,rfl⟩⟩
   ·refine Zp [.rd 0 [] 0 0,.rd 1 [.o 0 none] 0 0,.rd 2 [] 0 7,.rd 3 [] 0 0,.rd 4 [] 0 0,.rd 5 [.o 0 none] 0 0,.rd 6 [] 0 0,.rd 7 [.o 0 none] 0 0,.rd 8 [] 0 0,.rd 9 [] 0 6,.rd 10 [] 0 0,.rd 11 [] 0 0,.rd 12 [] 1 0,.rd 13 [] 1 0,.rd 14 [] 1 0,.rd 15 [] 1 0,.rd 16 [] 1 0,.rd 17 [] 1 0,.rd 18 [] 1 0,.rd 19 [] 0 0,.rd 20 [] 0 0,.rd 21 [] 1 0,.rd 22 [] 1 0,.rd 23 [] 1 0,.rd 24 [] 1 0,.rd 25 [] 0 0] [11,3] [(38,.val (.bool true))] (oC (show decide (c.place<(0:Int))=false from by simp;omega) (oC (show decide (c.place≥(↑c.when.length:Int))=true from by simp;omega) oN)) ?_
    refine gR ?_
    refine Zt [.rd 0 [.r 0 (some (.iface 390 (.pointer (some (er 2)))))] 0 0,zR 1] [38] [zV 2 (.iface 390 (.pointer (some (er 2))))] (oC dh oN) ?_
    refine Yr [[]] (.iface 390 (.pointer (some (er 2)))) fun a w s=>?_
    rw[e]
    exact .inl ⟨rfl,_,s.ret (by simp) [] [] rfl rfl,.inr ⟨by decide,rfl⟩⟩
  obtain⟨t,ht⟩:∃t,c.when[c.place.toNat]?=some t:=⟨_,ak (by omega)⟩
  have hg:¬(b8 c.when≠0):=by simp[nc]
  refine gr 1 rfl c.place.toNat (dD ht) (by kernel_rfl) (fun b1 fu uf vi vm ha1 cP=>?_)
  cases ha1
  have cg:=oO (cP 0 _ rfl)
  by_cases h0:t=0
  ·have e:aY c=⟨2,-1⟩:=by
    by_cases h12:12<c.ops.length
    ·rw[aY,if_neg hg,if_pos (by omega)]
    ·rw[aY,if_neg hg,if_neg (by omega),if_pos (by rw[ht,h0])]
   try simp only[aQ]
   refine Zp ([zR 0,.rd 1 [.o 0 none] 0 0,.rd 2 [] 0 7,zR 3,zR 4,.rd 5 [.o 0 none] 0 0,zR 6,.rd 7 [.o 0 none] 0 0,zR 8,.rd 9 [] 0 7]++bh 10 13++[.rd 13 [.o 0 none] 0 0,zR 14,.rd 15 [.o 0 none] 0 0,.rd 16 [] 0 2,.rd 17 [.r 2 (some (nI t))] 0 0,.rd 18 [] 0 6,zR 19,zR 20,.rd 21 [] 1 0,.rd 22 [] 1 0,.rd 23 [] 1 0,.rd 24 [] 1 0,zR 25]) [11,3] [zB 38 true] (oC (show decide (c.place<(0:Int))=false from by simp;omega) (oC (show decide (c.place≥(↑c.when.length:Int))=false from by simp;omega) (oC (show 0≤c.place from by omega) (oC (show c.place<(↑c.when.length:Int) from by omega) (oC cg (oC (show(t==(0:Int))=true from by simp;omega) oN)))))) ?_
   refine gR ?_
   refine Zt [.rd 0 [.r 0 (some (.iface 390 (.pointer (some (er 2)))))] 0 0,zR 1] [38] [zV 2 (.iface 390 (.pointer (some (er 2))))] (oC dh oN) ?_
   refine Yr [[]] (.iface 390 (.pointer (some (er 2)))) fun a w s=>?_
   rw[e]
   exact .inl ⟨rfl,_,s.ret (by simp) [] [] rfl rfl,.inr ⟨by decide,rfl⟩⟩
  have VU:¬c.when[c.place.toNat]?=some 0:=by rw[ht];simpa using h0
  by_cases h12:12<c.ops.length
  ·have e:aY c=⟨2,-1⟩:=by rw[aY,if_neg hg,if_pos (by omega)]
   try simp only[aQ]
   refine Zp ([zR 0,.rd 1 [.o 0 none] 0 0,.rd 2 [] 0 7,zR 3,zR 4,.rd 5 [.o 0 none] 0 0,zR 6,.rd 7 [.o 0 none] 0 0,zR 8,.rd 9 [] 0 7]++bh 10 13++[.rd 13 [.o 0 none] 0 0,zR 14,.rd 15 [.o 0 none] 0 0,.rd 16 [] 0 2,.rd 17 [.r 2 (some (nI t))] 0 0,.rd 18 [] 0 7]++bh 19 22++[.rd 22 [.o 0 none] 0 0,zR 23,.rd 24 [] 0 6,zR 25]) [11,3] [zB 38 true] (oC (show decide (c.place<(0:Int))=false from by simp;omega) (oC (show decide (c.place≥(↑c.when.length:Int))=false from by simp;omega) (oC (show 0≤c.place from by omega) (oC (show c.place<(↑c.when.length:Int) from by omega) (oC cg (oC (show(t==(0:Int))=false from by simp;omega) (oC (show decide ((↑c.ops.length:Int)>(12:Int))=true from by simp;omega) oN))))))) ?_
   refine gR ?_
   refine Zt [.rd 0 [.r 0 (some (.iface 390 (.pointer (some (er 2)))))] 0 0,zR 1] [38] [zV 2 (.iface 390 (.pointer (some (er 2))))] (oC dh oN) ?_
   refine Yr [[]] (.iface 390 (.pointer (some (er 2)))) fun a w s=>?_
   rw[e]
   exact .inl ⟨rfl,_,s.ret (by simp) [] [] rfl rfl,.inr ⟨by decide,rfl⟩⟩
  have oQ:¬(c.place<0∨c.when.length≤c.place∨12<c.ops.length):=by omega
  try simp only[aQ]
  refine Zp ([zR 0,.rd 1 [.o 0 none] 0 0,.rd 2 [] 0 7,zR 3,zR 4,.rd 5 [.o 0 none] 0 0,zR 6,.rd 7 [.o 0 none] 0 0,zR 8,.rd 9 [] 0 7]++bh 10 13++[.rd 13 [.o 0 none] 0 0,zR 14,.rd 15 [.o 0 none] 0 0,.rd 16 [] 0 2,.rd 17 [.r 2 (some (nI t))] 0 0,.rd 18 [] 0 7]++bh 19 22++[.rd 22 [.o 0 none] 0 0,zR 23,.rd 24 [] 0 7,zR 25]) [11,3] [zB 38 false] (oC (show decide (c.place<(0:Int))=false from by simp;omega) (oC (show decide (c.place≥(↑c.when.length:Int))=false from by simp;omega) (oC (show 0≤c.place from by omega) (oC (show c.place<(↑c.when.length:Int) from by omega) (oC cg (oC (show(t==(0:Int))=false from by simp;omega) (oC (show decide ((↑c.ops.length:Int)>(12:Int))=false from by simp;omega) oN))))))) ?_
  refine cF ?_
  refine aG (aq ?_)
  refine Zs [zR 0,.rd 1 [.o 0 none] 0 0,zR 2,zR 3] [38] [zB 43 ((↑c.ops.length:Int)==0)] ?_
  refine cC (t:=(↑c.ops.length:Int)==0) (fun hz=>?_) (fun hz=>?_)
  ·have e:aY c=⟨3,-1⟩:=by rw[aY,if_neg hg,if_neg oQ,if_neg VU,if_pos (by simp at hz;simp[hz])]
   refine Zt [.rd 0 [.r 1 (some (.iface 390 (.pointer (some (er 3)))))] 0 0,zR 1] [43] [zV 2 (.iface 390 (.pointer (some (er 3))))] (oC gu oN) ?_
   refine Yr [[]] (.iface 390 (.pointer (some (er 3)))) fun a w s=>?_
   rw[e]
   exact .inl ⟨rfl,_,s.ret (by simp) [] [] rfl rfl,.inr ⟨by decide,rfl⟩⟩
  have Jv:¬c.ops.length=0:=by simp at hz;simp[hz]
  have e:aY c=j5 c.ops c.when.length c.ops.length 0:=by rw[aY,if_neg hg,if_neg oQ,if_neg VU,if_neg Jv]
  rw[e]
  refine aG (aq ?_)
  refine Zs [zR 0,.rd 1 [.o 0 none] 0 0,zR 2,zR 3] [43] [zS 46 a2 c.ops.length c2,zI 47 (↑c.ops.length:Int),zI 48 0] ?_
  refine aM ?_
  refine cU (fun i:Int=>[zP 1 (aN 0),zV 2 .nilIface,zS 46 a2 c.ops.length c2,zI 47 (↑c.ops.length:Int),zI 48 i]) (fun i:Int=>[(aN 0,.cells #[.slice (sA b1 fu) c.when.length c1,nI c.place,.slice a2 c.ops.length c2] 35 (0,0))]) (fun i:Int=>[]) (fun i:Int=>[(.nilIface,(dC er eb)),(.slice (sA b1 fu) c.when.length c1,(aS c.when)),(.slice a2 c.ops.length c2,(D.sl 7 (aj fe c.ops))),(.pointer (sA 0 0),(D.ptr [D.v (Value.iface 390 (Value.pointer (some (er 2))))])),(.pointer (sA 1 0),(D.ptr [D.v (Value.iface 390 (Value.pointer (some (er 3))))]))]) (fun i:Int=>(c.ops.length - i).toNat) (fun i:Int=>(0≤i∧i≤c.ops.length∧∀j:Nat,0≤j→j<i.toNat→ik c.ops c.when.length j=0)) 0 [1,2,46,47,48] [0] [] [0,1,2,3,4] ?_ (by kernel_rfl) rfl rfl rfl ?_
  ·exact⟨by simp,by omega,by simp⟩
  rintro i ⟨hi0,hi,hno⟩
  refine Zs [zR 0] [] [zB 49 (decide (i<(↑c.ops.length:Int)))] ?_
  refine aq ?_
  refine cC (t:=decide (i<(↑c.ops.length:Int))) (fun hlt=>?_) (fun hlt=>?_)
  ·have fa:i<c.ops.length:=by simpa using hlt
   obtain⟨o,ho⟩:∃o,c.ops[i.toNat]?=some o:=⟨_,ak (by omega)⟩
   have hit:∀k:Nat,ik c.ops c.when.length i.toNat=k→k≠0→j5 c.ops c.when.length c.ops.length 0=⟨k,i⟩:=fun k hk h0=>by
    rw[(kf c.ops.length 0 i.toNat (eo _) hno).2 (by omega) (by rw[hk];exact h0),hk]
    congr 1
    omega
   have next:ik c.ops c.when.length i.toNat=0→0≤i+1∧i+1≤c.ops.length∧∀j:Nat,0≤j→j<(i+1).toNat→ik c.ops c.when.length j=0:=fun h=>⟨by omega,by omega,fun j h0 hj=>by
    by_cases uO:j=i.toNat
    ·rw[uO];exact h
    ·exact hno j h0 (by omega)⟩
   refine di 4 rfl (fun IK G2 IB pE=>?_)
   refine j0 2 rfl i.toNat (dD ho) (by kernel_rfl) (fun b2 pN Bq JT IC wI oV ha2 kK=>?_)
   cases ha2
   have gI:=oO (kK 0 _ rfl)
   have tI:=kK 1 _ rfl
   have tH:=kK 2 _ rfl
   have Il:=kK 3 _ rfl
   have Ik:=kK 4 _ rfl
   have Ij:=kK 5 _ rfl
   have Ii:=kK 6 _ rfl
   by_cases hi1:i=0
   ·have Ey:i.toNat=0:=by omega
    try simp only[aQ]
    refine aG (aq (aM ?_))
    refine Zu [zR 0,.rd 1 [] 0 2,.rd 2 [.r 4 (some (nI o.no)),.r 4 (some (.string o.key)),.r 4 (some (nI o.kind)),.r 4 (some (.string o.text)),.r 4 (some (nI o.n)),.r 4 (some (.bool o.remove)),.r 4 (some (.slice (wI,oV).fst ((aj bK o.bF).length) oV))] 0 0,.wr 3 [] 0,zR 4,.wr 5 (ek 1 7) 0] [(5,[])] [49] (fun dy=>[zI 4 i,zP 5 (dy 0)]) o0 (fun dy=>[(dy 0,.cells #[nI o.no,.string o.key,nI o.kind,.string o.text,nI o.n,.bool o.remove,.slice (wI,oV).fst ((aj bK o.bF).length) oV] 55 (0,0))]) (fun dy=>(oC hi0 (oC fa (oC gI (oC tI (oC tH (oC Il (oC Ik (oC Ij (oC Ii oN)))))))))) (fun dy=>?_)
    refine jS [(0,true),(1,true),(2,true),(3,true),(4,false),(5,true)] [] ?_
    refine Ya [.rd 0 (ek 1 7) 0 0,zR 1,.rd 2 [.o 0 none] 0 0,zR 3] [] [zV 53 (.agg #[nI o.no,.string o.key,nI o.kind,.string o.text,nI o.n,.bool o.remove,.slice (wI,oV).fst ((aj bK o.bF).length) oV]),zI 56 (↑c.when.length:Int)] ?_
    refine Yc 144 #[.agg #[nI o.no,.string o.key,nI o.kind,.string o.text,nI o.n,.bool o.remove,.slice (wI,oV).fst ((aj bK o.bF).length) oV],nI (↑c.when.length:Int)] (some 57) fun w S hG=>?_
    refine(w9 (o:=o) (hG.at 0 rfl) (hG.at 5 rfl)).mono ?_
    rintro e1 w1 ⟨v,hR,hv⟩
    refine⟨_,_,_,hR,?_⟩
    obtain⟨he,rfl⟩|⟨he,rfl⟩:=hv
    ·try simp only[aQ]
     refine Ya [zR 5] [57,53,56] [zV 6 .nilIface] ?_
     refine aC (aq ?_)
     refine Zt (bh 0 4++[.rd 4 [] 0 7,zR 5,zR 6,.rd 7 [] 1 0,.rd 8 [] 1 0,.rd 9 [] 1 0,.rd 10 [] 1 0,.rd 11 [] 1 0,.rd 12 [] 1 0,.rd 13 [] 1 0,.rd 14 [] 1 0,.rd 15 [] 1 0,.rd 16 [] 1 0,zR 17]) [] [zB 75 false] (oC (show decide (i>(0:Int))=false from by simp;omega) oN) ?_
     refine cF ?_
     refine aG ?_
     refine Zs [zR 0,zR 1] [75] [zB 78 false] ?_
     refine cF ?_
     refine aG (eu ?_)
     refine Zp [.rd 0 [] 0 1,zR 1] [78] [zI 48 (i+1)] (oC (show IntKind.i64.wrap (i+1)=i+1 from wrap_i64 (by omega) (by omega)) oN) ?_
     refine bC (i+1) [1,2,46,47,48] [0] [] [0,1,2,3,4] ?_ ?_ (by kernel_rfl) rfl rfl rfl
     ·exact next (by rw[Ey]at ho ⊢;exact sV ho he)
     ·omega
    ·try simp only[aQ]
     refine Ya [zR 5] [57,53,56] [zV 6 (.iface 390 (.pointer (some (er (fE o (↑c.when.length:Int))))))] ?_
     refine aC (aq ?_)
     refine Zs (bh 0 3++[.rd 3 [] 1 0,.rd 4 [] 1 0,zR 5,zR 6,.rd 7 [] 1 0,.rd 8 [] 1 0,.rd 9 [] 1 0,.rd 10 [] 1 0,.rd 11 [] 1 0,.rd 12 [] 1 0,.rd 13 [] 1 0,.rd 14 [] 1 0,.rd 15 [] 1 0,.rd 16 [] 1 0,zR 17]) [] [zB 75 false] ?_
     refine cF ?_
     refine aG ?_
     refine Zs [zR 0,zR 1] [75] [zB 78 true] ?_
     refine gR ?_
     refine Zv (bh 0 3++[.wr 3 [] 0,zR 4,zR 5]) [] [78] (fun eR=>[zV 2 (.iface 202 (.pointer (sA (eR 0) 0)))]) o0 (fun eR=>[(eR 0,.cells #[nI i,.iface 390 (.pointer (some (er (fE o (↑c.when.length:Int)))))] 204 (0,0))]) (fun eR=>?_)
     refine Yr [[]] (.iface 202 (.pointer (sA (eR 0) 0))) fun a w s=>?_
     rw[hit _ (o7 ho he) he]
     exact .inr ⟨by simp only;omega,hi0,_,((s.share 2 rfl).jz (fB fun w S H=>l6 rfl rfl (H (_,_) (ae (i:=6) rfl)))).ret (by simp) [] [7] rfl rfl⟩
   ·obtain⟨q,hq⟩:∃q,c.ops[(i - 1).toNat]?=some q:=⟨_,ak (by omega)⟩
    have N6:i.toNat=(i - 1).toNat+1:=by omega
    refine Jj 2 rfl 4 rfl ((i - 1).toNat) (dD hq) (by kernel_rfl) (fun yK p8 nf=>?_)
    have rE:=oO (nf 0 _ rfl)
    have x9:=nf 1 _ rfl
    have x8:=nf 2 _ rfl
    have x7:=nf 3 _ rfl
    have x6:=nf 4 _ rfl
    have x5:=nf 5 _ rfl
    have x4:=nf 6 _ rfl
    try simp only[aQ]
    refine aG (aq (aM ?_))
    refine Zu [zR 0,.rd 1 [] 0 2,.rd 2 [.r 4 (some (nI o.no)),.r 4 (some (.string o.key)),.r 4 (some (nI o.kind)),.r 4 (some (.string o.text)),.r 4 (some (nI o.n)),.r 4 (some (.bool o.remove)),.r 4 (some (.slice (wI,oV).fst ((aj bK o.bF).length) oV))] 0 0,.wr 3 [] 0,zR 4,.wr 5 (ek 1 7) 0] [(5,[])] [49] (fun dy=>[zI 4 i,zP 5 (dy 0)]) o0 (fun dy=>[(dy 0,.cells #[nI o.no,.string o.key,nI o.kind,.string o.text,nI o.n,.bool o.remove,.slice (wI,oV).fst ((aj bK o.bF).length) oV] 55 (0,0))]) (fun dy=>(oC hi0 (oC fa (oC gI (oC tI (oC tH (oC Il (oC Ik (oC Ij (oC Ii oN)))))))))) (fun dy=>?_)
    refine jS [(0,true),(1,true),(2,true),(3,true),(4,false),(5,true)] [] ?_
    refine Ya [.rd 0 (ek 1 7) 0 0,zR 1,.rd 2 [.o 0 none] 0 0,zR 3] [] [zV 53 (.agg #[nI o.no,.string o.key,nI o.kind,.string o.text,nI o.n,.bool o.remove,.slice (wI,oV).fst ((aj bK o.bF).length) oV]),zI 56 (↑c.when.length:Int)] ?_
    refine Yc 144 #[.agg #[nI o.no,.string o.key,nI o.kind,.string o.text,nI o.n,.bool o.remove,.slice (wI,oV).fst ((aj bK o.bF).length) oV],nI (↑c.when.length:Int)] (some 57) fun w S hG=>?_
    refine(w9 (o:=o) (hG.at 0 rfl) (hG.at 5 rfl)).mono ?_
    rintro e1 w1 ⟨v,hR,hv⟩
    refine⟨_,_,_,hR,?_⟩
    obtain⟨he,rfl⟩|⟨he,rfl⟩:=hv
    ·have hn:=uC (p:=c.when.length) (by rw[←N6];exact ho) hq he
     rw[←N6]at hn
     by_cases Qi:o.no≤q.no
     ·rw[if_pos Qi]at hn
      try simp only[aQ]
      refine Ya [zR 5] [57,53,56] [zV 6 .nilIface] ?_
      refine aC (aq ?_)
      refine Zt (bh 0 4++[.rd 4 [] 0 6]++bh 5 8++[.rd 8 [.o 1 none] 0 0,zR 9,.rd 10 [.o 0 none] 0 0,zR 11,.rd 12 [] 0 1,.rd 13 [] 0 2,zR 14,.rd 15 [.r 4 (some (nI q.no))] 0 0,.rd 16 [] 0 6,zR 17]) [] [zB 75 true] (oC (show decide (i>(0:Int))=true from by simp;omega) (oC (show IntKind.i64.wrap (i - 1)=i - 1 from wrap_i64 (by omega) (by omega)) (oC (show 0≤i - 1 from by omega) (oC (show i - 1<(↑c.ops.length:Int) from by omega) (oC rE (oC (show decide (o.no≤q.no)=true from by simp;omega) oN)))))) ?_
      refine gR ?_
      refine Zp [.rd 0 [.r 1 (some (.iface 390 (.pointer (some (er 3)))))] 0 0,zR 1] [75] [zV 6 (.iface 390 (.pointer (some (er 3))))] (oC gu oN) ?_
      refine Zs [zR 0,zR 1] [] [zB 78 true] ?_
      refine gR ?_
      refine Zv (bh 0 3++[.wr 3 [] 0,zR 4,zR 5]) [] [78] (fun eR=>[zV 2 (.iface 202 (.pointer (sA (eR 0) 0)))]) o0 (fun eR=>[(eR 0,.cells #[nI i,.iface 390 (.pointer (some (er 3)))] 204 (0,0))]) (fun eR=>?_)
      refine Yr [[]] (.iface 202 (.pointer (sA (eR 0) 0))) fun a w s=>?_
      rw[hit _ hn (by decide)]
      exact .inr ⟨by simp only;omega,hi0,_,((s.share 2 rfl).jz (fB fun w S H=>l6 rfl rfl (H (_,_) (ae (i:=7) rfl)))).ret (by simp) [] [8] rfl rfl⟩
     ·rw[if_neg Qi]at hn
      try simp only[aQ]
      refine Ya [zR 5] [57,53,56] [zV 6 .nilIface] ?_
      refine aC (aq ?_)
      refine Zt (bh 0 4++[.rd 4 [] 0 6]++bh 5 8++[.rd 8 [.o 1 none] 0 0,zR 9,.rd 10 [.o 0 none] 0 0,zR 11,.rd 12 [] 0 1,.rd 13 [] 0 2,zR 14,.rd 15 [.r 4 (some (nI q.no))] 0 0,.rd 16 [] 0 7,zR 17]) [] [zB 75 false] (oC (show decide (i>(0:Int))=true from by simp;omega) (oC (show IntKind.i64.wrap (i - 1)=i - 1 from wrap_i64 (by omega) (by omega)) (oC (show 0≤i - 1 from by omega) (oC (show i - 1<(↑c.ops.length:Int) from by omega) (oC rE (oC (show decide (o.no≤q.no)=false from by simp;omega) oN)))))) ?_
      refine cF ?_
      refine aG ?_
      refine Zs [zR 0,zR 1] [75] [zB 78 false] ?_
      refine cF ?_
      refine aG (eu ?_)
      refine Zp [.rd 0 [] 0 1,zR 1] [78] [zI 48 (i+1)] (oC (show IntKind.i64.wrap (i+1)=i+1 from wrap_i64 (by omega) (by omega)) oN) ?_
      refine bC (i+1) [1,2,46,47,48] [0] [] [0,1,2,3,4] ?_ ?_ (by kernel_rfl) rfl rfl rfl
      ·exact next hn
      ·omega
    ·try simp only[aQ]
     refine Ya [zR 5] [57,53,56] [zV 6 (.iface 390 (.pointer (some (er (fE o (↑c.when.length:Int))))))] ?_
     refine aC (aq ?_)
     refine Zs (bh 0 3++[.rd 3 [] 1 0,.rd 4 [] 1 0,zR 5,zR 6,.rd 7 [] 1 0,.rd 8 [] 1 0,.rd 9 [] 1 0,.rd 10 [] 1 0,.rd 11 [] 1 0,.rd 12 [] 1 0,.rd 13 [] 1 0,.rd 14 [] 1 0,.rd 15 [] 1 0,.rd 16 [] 1 0,zR 17]) [] [zB 75 false] ?_
     refine cF ?_
     refine aG ?_
     refine Zs [zR 0,zR 1] [75] [zB 78 true] ?_
     refine gR ?_
     refine Zv (bh 0 3++[.wr 3 [] 0,zR 4,zR 5]) [] [78] (fun eR=>[zV 2 (.iface 202 (.pointer (sA (eR 0) 0)))]) o0 (fun eR=>[(eR 0,.cells #[nI i,.iface 390 (.pointer (some (er (fE o (↑c.when.length:Int)))))] 204 (0,0))]) (fun eR=>?_)
     refine Yr [[]] (.iface 202 (.pointer (sA (eR 0) 0))) fun a w s=>?_
     rw[hit _ (o7 ho he) he]
     exact .inr ⟨by simp only;omega,hi0,_,((s.share 2 rfl).jz (fB fun w S H=>l6 rfl rfl (H (_,_) (ae (i:=7) rfl)))).ret (by simp) [] [8] rfl rfl⟩
  ·have hend:i.toNat=0+c.ops.length:=by simp at hlt;omega
   rw[(kf c.ops.length 0 i.toNat (eo _) hno).1 hend]
   refine dO rfl ?_
   refine Zs [zR 0] [49,1,46,47,48] [] ?_
   refine Yr [[]] (.nilIface) fun a w s=>?_
   exact .inl ⟨rfl,_,s.ret (by simp) [] [] rfl rfl,.inl ⟨rfl,rfl⟩⟩
 ·have e:aY c=⟨b8 c.when,-1⟩:=by rw[aY,if_pos nc]
  try simp only[aQ]
  refine Ya [zR 3] [9,8] [zV 3 (.iface 390 (.pointer (some (er (b8 c.when)))))] ?_
  refine aC ?_
  refine Zs [zR 0,zR 1] [] [zB 11 true] ?_
  refine gR ?_
  refine Zs [zR 0,zR 1] [11,3] [zV 2 (.iface 390 (.pointer (some (er (b8 c.when)))))] ?_
  refine Yr [[]] (.iface 390 (.pointer (some (er (b8 c.when))))) fun a w s=>?_
  rw[e]
  exact .inl ⟨rfl,_,s.ret (by simp) [] [] rfl rfl,.inr ⟨nc,rfl⟩⟩
end Go.Proofs.YtmkapocibaojdaaGreatDoor
end
section
namespace Go.Proofs.YtmkapocibaojdaaGreatDoor
open Go Go.Sx
set_option maxHeartbeats 4000000 in
theorem RT {w:World} {S:Nat→Prop} {t:Addr}:Calls Tryz.prog 123 #[.nilIface,.iface 229 (.pointer (some t))] w fun e w'=>cQ [] w S w' e (.bool false) [] []:=by
 refine jL Tryz.func123 RL (args:=[.nilIface,.iface 229 (.pointer (some t))]) (S:=S) (G:=[]) (by kernel_rfl) (.nil _ _) ?_
 refine Zs [zR 0] [] [zB 4 false] ?_
 refine aq ?_
 refine Zs [zR 0,zR 1] [] [zB 9 true] ?_
 refine gR ?_
 refine Zs [zR 0] [9] [] ?_
 refine Yr [[]] (.bool false) fun a w s=>?_
 exact s.ret (by simp) [] [] rfl rfl
set_option maxHeartbeats 4000000 in
theorem RS {w:World} {S:Nat→Prop} {er:Nat→Addr} {eb:Nat→Array Value×TypeId} {k:Nat} {v:Value} (hC:cm w S .nilIface (dC er eb)) (hv:lq 390 er k v) :
  Calls Tryz.prog 164 #[v] w fun e w'=>cQ [] w S w' e v [] []:=by
 rcases hv with ⟨rfl,rfl⟩|⟨h0,rfl⟩
 ·refine jL Tryz.func164 I0 (args:=[.nilIface]) (G:=[(_,dC er eb)]) (by kernel_rfl) (.cons hC (.nil _ _)) ?_
  refine Zs [zR 0] [] [zV 2 .nilIface] ?_
  refine Zv [.wr 0 [] 0] [] [] (fun aN=>[zP 3 (aN 0)]) o0 (fun aN=>[(aN 0,.cells #[.pointer none] 202 (0,0))]) (fun aN=>?_)
  refine aq ?_
  refine jS [(0,true),(1,true),(2,false)] [] ?_
  refine Ya [zR 0,zR 1] [] [zV 4 .nilIface,zV 5 (.iface 229 (.pointer (sA (aN 0) 0)))] ?_
  refine Yc 123 #[.nilIface,.iface 229 (.pointer (sA (aN 0) 0))] (some 6) fun w S hG=>?_
  refine(RT (S:=S)).mono ?_
  rintro e1 w1 hR
  refine⟨_,_,_,hR,?_⟩
  try simp only[aQ]
  refine aC ?_
  refine cF ?_
  refine aG ?_
  refine Zs [zR 0,zR 1] [6,4,5,3,0] [] ?_
  refine Yr [[]] (.nilIface) fun a w s=>?_
  exact s.ret (by simp) [] [] rfl rfl
 ·refine jL Tryz.func164 I0 (args:=[.iface 390 (.pointer (some (er k)))]) (G:=[(_,dC er eb)]) (by kernel_rfl) (.cons hC (.nil _ _)) ?_
  refine Zs [zR 0] [] [zV 2 .nilIface] ?_
  refine Zv [.wr 0 [] 0] [] [] (fun aN=>[zP 3 (aN 0)]) o0 (fun aN=>[(aN 0,.cells #[.pointer none] 202 (0,0))]) (fun aN=>?_)
  refine aq ?_
  refine jS [(0,true),(1,true),(2,false)] [] ?_
  refine Ya [zR 0,zR 1] [] [zV 4 (.iface 390 (.pointer (some (er k)))),zV 5 (.iface 229 (.pointer (sA (aN 0) 0)))] ?_
  refine Yc 123 #[.iface 390 (.pointer (some (er k))),.iface 229 (.pointer (sA (aN 0) 0))] (some 6) fun w S hG=>?_
  refine(I2 (hG.at 0 rfl)).mono ?_
  rintro e1 w1 hR
  refine⟨_,_,_,hR,?_⟩
  try simp only[aQ]
  refine aC ?_
  refine cF ?_
  refine aG ?_
  refine Zs [zR 0,zR 1] [6,4,5,3,0] [zV 2 (.iface 390 (.pointer (some (er k))))] ?_
  refine Yr [[]] (.iface 390 (.pointer (some (er k)))) fun a w s=>?_
  exact s.ret (by simp) [] [] rfl rfl
set_option maxHeartbeats 4000000 in
theorem RR {w:World} {S:Nat→Prop} {er:Nat→Addr} {eb:Nat→Array Value×TypeId} {k pb:Nat} {at':Int} (hC:cm w S .nilIface (dC er eb)) (hp:cm w S (.pointer (some ⟨pb,0,none⟩)) (.ptr [.v (.int .i64 at'),.v (.iface 390 (.pointer (some (er k))))])) :
  Calls Tryz.prog 164 #[.iface 202 (.pointer (some ⟨pb,0,none⟩))] w fun e w'=>cQ [] w S w' e (.iface 390 (.pointer (some (er k)))) [] []:=by
 refine jL Tryz.func164 I0 (args:=[.iface 202 (.pointer (some ⟨pb,0,none⟩))]) (G:=[(_,dC er eb),(_,.ptr [.v (.int .i64 at'),.v (.iface 390 (.pointer (some (er k))))])]) (by kernel_rfl) (.cons hC (.cons hp (.nil _ _))) ?_
 refine Jd 1 rfl fun b off cs e fz ls he hl hc=>?_
 cases he
 obtain rfl:ls=[]:=ct hl
 have zb:cs[0+1]?=some (.iface 390 (.pointer (some (er k)))):=hc 1 _ rfl
 try simp only[aQ]
 refine Zs [zR 0] [] [zV 2 .nilIface] ?_
 refine Zv [.wr 0 [] 0] [] [] (fun aN=>[zP 3 (aN 0)]) o0 (fun aN=>[(aN 0,.cells #[.pointer none] 202 (0,0))]) (fun aN=>?_)
 refine aq (aq ?_)
 refine js 0 rfl ?_
 try simp only[aQ]
 refine jT [(0,true),(1,true),(2,false)] [] ?_
 refine Ya [zR 0,zR 1] [] [zV 4 (.iface 202 (.pointer (sA pb 0))),zV 5 (.iface 229 (.pointer (sA (aN 0) 0)))] ?_
 refine cn [] [0] 123 #[.iface 202 (.pointer (some (⟨pb,0,none⟩))),.iface 229 (.pointer (some (⟨aN 0,0,none⟩)))] (some 6) (by kernel_rfl) (by kernel_rfl) (by decide) (fun w S M hP hG _=>?_)
 refine(RU (hG.at 0 rfl) hP).mono ?_
 rintro e1 w1 hR
 refine⟨_,_,_,hR,?_⟩
 try simp only[aQ]
 refine aC ?_
 try simp only[aQ]
 refine gR ?_
 try simp only[aQ]
 refine aq ?_
 try simp only[aQ]
 refine fh 0 rfl ?_
 refine Zp [.rd 0 [.o 0 none] 0 0,zR 1,zR 2,.rd 3 [.r 0 (some (.iface 390 (.pointer (some (er k)))))] 0 0,zR 4] [6,4,5,3] [zV 2 (.iface 390 (.pointer (some (er k))))] (oC zb oN) ?_
 refine Yr [[]] (.iface 390 (.pointer (some (er k)))) fun a w s=>?_
 exact s.ret (by simp) [] [] rfl rfl
end Go.Proofs.YtmkapocibaojdaaGreatDoor
end
section
namespace Go.Sx
open Go
theorem G4 (a b:ByteArray):(a.toList==b.toList)=decide (a=b):=by
 rw[ByteArray.toList_eq,ByteArray.toList_eq]
 by_cases h:a=b
 ·subst h;simp
 ·rw[decide_eq_false h]
  simp only[beq_eq_false_iff_ne,ne_eq]
  intro he
  apply h
  cases a;cases b
  simp only[ByteArray.mk.injEq]
  exact Array.toList_inj.1 he
def wW (xs:List Int):Int:=xs.foldl (· + ·) 0
def gZ (x y:Int):Int:=if x<y then -1 else if y<x then 1 else 0
def Dn:List Int→Int
 | []=>0
 | x::l=>if x≠0 then x else Dn l
theorem B2:∀{l:List Int},(∀(j:Nat) t,l[j]?=some t→t=0)→Dn l=0
 | [],_=>rfl
 | x::l,h=>by
  have h0:=h 0 x rfl
  rw[Dn,if_neg (by simp[h0])]
  exact B2 fun j t ht=>h (j+1) t (by simpa using ht)
theorem HJ:∀{l:List Int} {i:Nat} {x:Int},(∀j:Nat,j<i→∀t,l[j]?=some t→t=0)→l[i]?=some x→x≠0→Dn l=x
 | [],_,_,_,h,_=>by simp at h
 | y::l,0,x,_,h,hx=>by
  simp only[aV,az]at h
  subst h
  rw[Dn,if_pos hx]
 | y::l,i+1,x,hz,h,hx=>by
  have h0:=hz 0 (by omega) y rfl
  rw[Dn,if_neg (by simp[h0])]
  exact HJ (i:=i) (fun j hj t ht=>hz (j+1) (by omega) t (by simpa using ht)) (by simpa using h) hx
def mu:List Int→List Int→Int
 | x::xs,y::ys=>if gZ x y≠0 then gZ x y else mu xs ys
 | _,_=>0
theorem vQ {x y:Int}:gZ x y=0↔x=y:=by
 unfold gZ
 split
 ·omega
 ·split <;> omega
theorem IT {x y:Int}:gZ x y<0↔x<y:=by
 unfold gZ
 split
 ·omega
 ·split <;> omega
theorem sC:∀xs:List Int,mu xs xs=0
 | []=>rfl
 | x::xs=>by
  have h:gZ x x=0:=vQ.2 rfl
  simp[mu,h,sC xs]
theorem xK {x y:Int} {xs ys:List Int}:mu (x::xs) (y::ys)<0↔x<y∨(x=y∧mu xs ys<0):=by
 rw[mu]
 by_cases h:gZ x y=0
 ·have:=vQ.1 h
  rw[if_neg (by simpa using h)]
  simp[this]
 ·have h2:x≠y:=fun he=>h (vQ.2 he)
  rw[if_pos h,IT]
  simp[h2]
theorem ry:∀{xs ys:List Int},xs.length=ys.length→mu xs ys<0∨xs=ys∨mu ys xs<0
 | [],[],_=>.inr (.inl rfl)
 | x::xs,y::ys,hl=>by
  rw[xK,xK]
  rcases Int.lt_trichotomy x y with h|h|h
  ·exact .inl (.inl h)
  ·subst h
   rcases ry (xs:=xs) (ys:=ys) (by simpa using hl)with h|h|h
   ·exact .inl (.inr ⟨rfl,h⟩)
   ·subst h;exact .inr (.inl rfl)
   ·exact .inr (.inr (.inr ⟨rfl,h⟩))
  ·exact .inr (.inr (.inl h))
theorem mZ:∀{xs ys zs:List Int},mu xs ys<0→mu ys zs<0→mu xs zs<0
 | x::xs,y::ys,z::zs,h1,h2=>by
  rw[xK]at h1 h2 ⊢
  rcases h1 with h1|⟨rfl,h1⟩ <;> rcases h2 with h2|⟨rfl,h2⟩
  ·exact .inl (Int.lt_trans h1 h2)
  ·exact .inl h1
  ·exact .inl h2
  ·exact .inr ⟨rfl,mZ h1 h2⟩
 | [],_,_,h1,_=>by simp[mu]at h1
 | _::_,[],_,h1,_=>by simp[mu]at h1
 | _::_,_::_,[],_,h2=>by simp[mu]at h2
theorem tC {xs ys:List Int} (h1:mu xs ys<0) (h2:mu ys xs<0):False:=by
 have:=mZ h1 h2
 rw[sC]at this
 omega
structure bE where
 o:fP
 d:gi
 w:Int
abbrev gg (x:bE):List D:=[dI x.o.no,.v (.string x.o.key),dI x.o.kind,.v (.string x.o.text),dI x.o.n,.v (.bool x.o.remove),.sl 3 (x.o.bF.map bK),dI x.d.place,dI x.d.time,dI x.d.no,dI x.w]
def iV (c:bO) (o:fP):gi:=⟨c.place,c.when.getD c.place.toNat 0,o.no⟩
def eD (c:bO) (o:fP):bE:=⟨o,iV c o,wW c.when⟩
def bM (l:List bO):List bE:=l.flatMap fun c=>c.ops.map (eD c)
def gx:List gi→List bE→List bE
 | _,[]=>[]
 | s,x::r=>if x.d∈s then gx s r else x::gx (x.d::s) r
theorem rJ:∀{s:List gi} {l:List bE} {x:bE},gx s (l++[x])=gx s l++if x.d∈s∨x.d∈l.map (·.d)then []else [x]
 | s,[],x=>by simp[gx]
 | s,y::r,x=>by
  rw[iO,gx,gx]
  by_cases hy:y.d∈s
  ·rw[if_pos hy,if_pos hy,rJ]
   congr 1
   by_cases hx:x.d∈s
   ·simp[hx]
   ·by_cases he:x.d=y.d
    ·rw[he]at hx;exact absurd hy hx
    ·simp[hx,he]
  ·rw[if_neg hy,if_neg hy,rJ]
   simp[or_assoc,or_left_comm]
theorem nh {s:List gi} {l:List bE} {x:bE} (h:x∈gx s l):x∈l∧x.d∉s:=by
 induction l generalizing s with
 | nil=>simp[gx]at h
 | cons y r ih=>
  unfold gx at h
  split at h
  ·have:=ih h
   exact⟨.tail _ this.1,this.2⟩
  ·rename_i hy
   rcases cE.1 h with rfl|h
   ·exact⟨.head _,hy⟩
   ·have:=ih h
    exact⟨.tail _ this.1,fun hc=>this.2 (.tail _ hc)⟩
theorem qI {s:List gi} {l:List bE}:((gx s l).map (·.d)).Nodup:=by
 induction l generalizing s with
 | nil=>simp[gx]
 | cons y r ih=>
  unfold gx
  split
  ·exact ih
  ·rw[cj,jf]
   refine⟨fun hm=>?_,ih⟩
   obtain⟨x,hx,he⟩:=aB.1 hm
   exact(nh hx).2 (by rw[he];exact .head _)
theorem DL {s:List gi} {l:List bE} {x:bE} (h:x∈l) (hs:x.d∉s):∃y∈gx s l,y.d=x.d:=by
 induction l generalizing s with
 | nil=>simp at h
 | cons y r ih=>
  unfold gx
  rcases cE.1 h with rfl|h
  ·rw[if_neg hs]
   exact⟨x,.head _,rfl⟩
  ·split
   ·exact ih h hs
   ·by_cases he:x.d=y.d
    ·exact⟨y,.head _,he.symm⟩
    ·obtain⟨z,hz,hzd⟩:=ih (s:=y.d::s) h (by simp[hs,he])
     exact⟨z,.tail _ hz,hzd⟩
def iq (x:bE):List Int:=[x.w,x.d.place,x.d.time,x.d.no]
def uX (a b:bE):Int:=Dn [gZ a.w b.w,gZ a.d.place b.d.place,gZ a.d.time b.d.time,gZ a.d.no b.d.no]
theorem tU (a b:bE):uX a b=mu (iq a) (iq b):=by
 simp[uX,iq,mu,Dn]
def gW (a b:bE):Bool:=decide (uX a b<0)
theorem jr {a b:bE}:gW a b=true↔mu (iq a) (iq b)<0:=by simp[gW,tU]
theorem rM {a b:bE} (h:iq a=iq b):a.d=b.d:=by
 simp only[iq,lT,and_true]at h
 cases ha:a.d;cases hb:b.d
 simp_all
theorem uW {a b c:bE} (h1:gW a b=true) (h2:gW b c=true):gW a c=true:=by
 rw[jr]at *
 exact mZ h1 h2
theorem nX {a b:bE} (h1:gW a b=true) (h2:gW b a=true):False:=by
 rw[jr]at *
 exact tC h1 h2
theorem tS (a b:bE):gW a b=true∨iq a=iq b∨gW b a=true:=by
 rw[jr,jr]
 exact ry rfl
def sortDone (l:List bE):List bE:=l.mergeSort fun x y=>!gW y x
def nN (key:ByteArray) (l:List bO):List bE:=(gx [] (bM l)).filter fun x=>decide (x.o.key=key)
def opsOf (key:ByteArray) (l:List bO):List bE:=sortDone (nN key l)
def kindOf (l:List bE):Int:=match l with
 | []=>0
 | x::_=>x.o.kind
def j6 (l:List bE):List bE:=l.filter fun x=>decide (x.o.kind=kindOf l)
def eL (key:ByteArray) (l:List bO):List bE:=j6 (opsOf key l)
def rI (l:List bE) (t:ByteArray) (d:gi):Bool:=l.any fun r=>r.o.remove&&(decide (r.o.text=t)&&decide (d∈r.o.bF))
def rq (l:List bE):List bE:=l.filter fun a=>!a.o.remove&&!rI l a.o.text a.d
def ji (l:List bE) (t:ByteArray):List gi:=((rq l).filter fun a=>decide (a.o.text=t)).map (·.d)
def D2 (a b:ByteArray):Bool:=decide (a.toList<b.toList)
def oG:List ByteArray→ByteArray→List ByteArray
 | [],s=>[s]
 | x::l,s=>if D2 x s then x::oG l s else if x=s then x::l else s::x::l
def setOf (l:List ByteArray):List ByteArray:=l.foldl oG []
structure Lf where
 kind:Int
 text:ByteArray
 n:Int
 set:List ByteArray
def lJ (l:List bE):ByteArray:=l.foldl (fun _ x=>x.o.text) (aL #[])
def ko (l:List bE):Int:=l.foldl (fun s x=>s+x.o.n) 0
def valOf (key:ByteArray) (l:List bO):Lf:=
 ⟨kindOf (opsOf key l),if kindOf (opsOf key l)=1 then lJ (eL key l)else aL #[],if kindOf (opsOf key l)=2 then ko (eL key l)else 0,if kindOf (opsOf key l)=3 then setOf ((rq (eL key l)).map (·.o.text))else []⟩
def pH (d:gi):List Int:=[d.place,d.time,d.no]
def yA (a b:gi):Int:=Dn [gZ a.place b.place,gZ a.time b.time,gZ a.no b.no]
theorem vO (a b:gi):yA a b=mu (pH a) (pH b):=by
 simp[yA,pH,mu,Dn]
def yz (a b:gi):Bool:=decide (yA a b<0)
theorem Ad {a b:gi}:yz a b=true↔mu (pH a) (pH b)<0:=by simp[yz,vO]
theorem DN {a b:gi} (h:pH a=pH b):a=b:=by
 simp only[pH,lT,and_true]at h
 cases a;cases b
 simp_all
theorem F3 (a b:gi):yz a b=true∨a=b∨yz b a=true:=by
 rw[Ad,Ad]
 rcases ry (xs:=pH a) (ys:=pH b) rfl with h|h|h
 ·exact .inl h
 ·exact .inr (.inl (DN h))
 ·exact .inr (.inr h)
def xq (l:List gi):List gi:=l.mergeSort fun x y=>!yz y x
def oH (key text:ByteArray) (l:List bO):List gi:=if kindOf (opsOf key l)=3 then xq (ji (eL key l) text)else []
end Go.Sx
end
