/- Part 5 of the texts of a claim: Vec3 Errs Code OpErr2 Fault ComErr2 Bare Val. -/
import Derived.Test.YtmkapocibaojdaaGreatDoorProg
import Derived.WalkKit
import Derived.LaidEql
import Derived.Stop.Asserts
import Derived.RowKitTokens
import Derived.Test.YtmkapocibaojdaaGreatDoorTs4
section
namespace Go.Proofs.YtmkapocibaojdaaGreatDoor
open Go Go.Sx
theorem twoErr_fine {xs ys:List Int} (h:twoErr xs ys=0):vecErr xs=0∧vecErr ys=0∧xs.length=ys.length:=by
 unfold twoErr at h
 split at h
 ·exact absurd h ‹_›
 ·split at h
  ·exact absurd h ‹_›
  ·split at h
   ·cases h
   ·rename_i h1 h2 h3
    exact⟨by simpa using h1,by simpa using h2,by omega⟩
set_option maxHeartbeats 4000000 in
theorem vwithin {w:World} {S:Nat→Prop} {er:Nat→Addr} {a b:Option Addr} {n m c d:Nat} {xs ys:List Int} (hE:AllG w S (globs er)) (ha:Rep w S (.slice a n c) (dInts xs)) (hb:Rep w S (.slice b m d) (dInts ys)) (hl:xs.length≤1000000) (hl2:ys.length≤1000000) :
  Calls Tryz.prog 100 #[.slice a n c,.slice b m d] w fun e w'=>
   (twoErr xs ys≠0∧Ret [] w S w' e (.tuple #[.bool false,errV 390 er (twoErr xs ys)]) [] []) ∨
   (twoErr xs ys=0∧Ret [] w S w' e (.tuple #[.bool (inL xs ys),.nilIface]) [] []):=by
 refine epG Tryz.func100 bd100 (args:=[.slice a n c,.slice b m d]) (G:=globs er++[(_,dInts xs),(_,dInts ys)]) (by kernel_rfl) (hE.app (.cons ha (.cons hb (.nil _ _)))) ?_
 try simp only[aQ]
 refine Zs [zR 0,zR 1] [] [zB 4 false,zV 5 .nilIface] ?_
 refine J_seq ?_
 refine jS [(0,true),(1,true),(2,false),(3,true)] [] ?_
 refine Ya [zR 0,zR 1] [] [zS 7 a n c,zS 8 b m d] ?_
 refine Yc 156 #[.slice a n c,.slice b m d] (some 9) fun w S hG=>?_
 refine(vtwo (hG.pick [0,1,2] rfl) (hG.at 3 rfl) (hG.at 4 rfl) hl hl2).mono ?_
 rintro e w2 ⟨v,hR,⟨h2,rfl⟩|⟨h2,rfl⟩⟩
 ·refine⟨_,_,_,hR,?_⟩
  try simp only[aQ]
  refine Ya [zR 3] [9,7,8] [zV 6 .nilIface] ?_
  refine JR_end ?_
  refine Zs [zR 0,zR 1] [] [zB 11 false] ?_
  refine cF ?_
  refine J_skip ?_
  refine jS [(0,true),(1,true),(2,false),(3,true),(4,true)] [] ?_
  refine Ya [zR 0,zR 1] [11,6,0,1] [zS 13 a n c,zS 14 b m d] ?_
  refine Yc 157 #[.slice a n c,.slice b m d] (some 15) fun w S hG=>?_
  refine(vin (hG.at 3 rfl) (hG.at 4 rfl) hl (twoErr_fine h2).2.2).mono ?_
  rintro e w2 hR
  refine⟨_,_,_,hR,?_⟩
  try simp only[aQ]
  refine Ya [zR 3,zR 4] [15,13,14] [zB 4 (inL xs ys)] ?_
  refine JR_end ?_
  refine Yr [[],[]] (.tuple #[.bool (inL xs ys),.nilIface]) fun a w s=>?_
  exact .inr ⟨h2,s.ret (by simp) [] [] rfl rfl⟩
 ·refine⟨_,_,_,hR,?_⟩
  try simp only[aQ]
  refine Ya [zR 3] [9,7,8] [zV 6 (.iface 390 (.pointer (some (er (twoErr xs ys)))))] ?_
  refine JR_end ?_
  refine Zs [zR 0,zR 1] [] [zB 11 true] ?_
  refine cTt ?_
  refine Zs (Rds 0 3) [11,6] [zV 5 (.iface 390 (.pointer (some (er (twoErr xs ys)))))] ?_
  refine Yr [[],[]] (.tuple #[.bool false,.iface 390 (.pointer (some (er (twoErr xs ys))))]) fun a w s=>?_
  exact .inl ⟨h2,s.ret (by simp) [] [] rfl rfl⟩
def sumL (xs:List Int):Int:=xs.foldl (· + ·) 0
theorem sumL_snoc (xs:List Int) (x:Int):sumL (xs++[x])=sumL xs+x:=by simp[sumL]
theorem sumL_le {xs:List Int} (h:∀t∈xs,0≤t∧t≤1099511627776) (i:Nat):0≤sumL (xs.take i)∧sumL (xs.take i)≤1099511627776*i:=by
 induction i with
 | zero=>simp[sumL]
 | succ i ih=>
  cases hx:xs[i]? with
  | none=>
   rw[List.take_add_one,hx]
   simp only[Option.toList_none,List.append_nil]
   omega
  | some x=>
   rw[List.take_add_one,hx]
   have:=h x (List.mem_of_getElem? hx)
   simp only[Option.toList_some,sumL_snoc]
   omega
set_option maxHeartbeats 4000000 in
theorem vweight {w:World} {S:Nat→Prop} {er:Nat→Addr} {a:Option Addr} {n c:Nat} {xs:List Int} (hE:AllG w S (globs er)) (ha:Rep w S (.slice a n c) (dInts xs)) (hl:xs.length≤1000000) :
  Calls Tryz.prog 195 #[.slice a n c] w fun e w'=>
   (vecErr xs≠0∧Ret [] w S w' e (.tuple #[.int .i64 0,errV 390 er (vecErr xs)]) [] []) ∨
   (vecErr xs=0∧Ret [] w S w' e (.tuple #[.int .i64 (sumL xs),.nilIface]) [] []):=by
 obtain rfl:=rep_ints_len ha
 refine epG Tryz.func195 bd195 (args:=[.slice a xs.length c]) (G:=globs er++[(_,dInts xs)]) (by kernel_rfl) (hE.app (.cons ha (.nil _ _))) ?_
 try simp only[aQ]
 refine Zs [zR 0,zR 1] [] [zI 2 0,zV 3 .nilIface] ?_
 refine J_seq ?_
 refine jS [(0,true),(1,false),(2,true)] [] ?_
 refine Ya [zR 0] [] [zS 8 a xs.length c] ?_
 refine Yc 141 #[.slice a xs.length c] (some 9) fun w S hG=>?_
 refine(vcheck (hG.pick [0,1,2] rfl) (hG.at 3 rfl) hl).mono ?_
 rintro e w2 ⟨v,hR,⟨h2,rfl⟩|⟨h2,rfl⟩⟩
 ·refine⟨_,_,_,hR,?_⟩
  have h6:=vecErr_len h2
  try simp only[aQ]
  refine Ya [zR 2] [9,8] [zV 4 .nilIface] ?_
  refine JR_end ?_
  refine Zs [zR 0,zR 1] [] [zB 11 false] ?_
  refine cF ?_
  refine J_skip ?_
  refine Zs [zR 0] [11,4] [zI 5 0] ?_
  refine J_seq ?_
  refine Zs (Rds 0 3) [0] [zS 13 a xs.length c,zI 14 (↑xs.length:Int),zI 15 0] ?_
  refine J_block ?_
  refine J_loopx (fun i:Int=>[zI 2 0,zV 3 .nilIface,zI 5 (sumL (xs.take i.toNat)),zS 13 a xs.length c,zI 14 (↑xs.length:Int),zI 15 i]) (fun i:Int=>[]) (fun i:Int=>[]) (fun i:Int=>[(.nilIface,(D.v Value.nilIface)),(.pointer (sA 0 0),(D.ptr [D.v (Value.iface 390 (Value.pointer (some (er 2))))])),(.pointer (sA 1 0),(D.ptr [D.v (Value.iface 390 (Value.pointer (some (er 3))))])),(.slice a xs.length c,(dInts xs))]) (fun i:Int=>(xs.length - i).toNat) (fun i:Int=>(0≤i∧i≤xs.length)) 0 [2,3,5,13,14,15] [] [] [0,1,2,3] ?_ (by kernel_rfl) rfl rfl rfl ?_
  ·exact⟨by simp,by omega⟩
  rintro i ⟨hi0,hi⟩
  refine Zs [zR 0] [] [zB 16 (decide (i<(↑xs.length:Int)))] ?_
  refine J_seq ?_
  refine cC (t:=decide (i<(↑xs.length:Int))) (fun hlt=>?_) (fun hlt=>?_)
  ·have hlt2:i<xs.length:=by simpa using hlt
   obtain⟨x,hx⟩:∃x,xs[i.toNat]?=some x:=⟨_,List.getElem?_eq_getElem (by omega)⟩
   have hs:=sumL_le (vecErr_in h2) i.toNat
   have hs2:=vecErr_in h2 x (List.mem_of_getElem? hx)
   refine J_read0 3 rfl i.toNat (map_at hx) (by kernel_rfl) (fun b1 off1 cs1 ty1 fz1 ha1 hrd1=>?_)
   cases ha1
   have hrd1_0:=rd0 (hrd1 0 _ rfl)
   try simp only[aQ]
   refine J_skip (J_seq (J_block ?_))
   refine Zt [.rd 0 [] 0 2,.rd 1 [.r 0 (some (nI x))] 0 0,zR 2] [16] [zI 7 x] (oC hi0 (oC hlt2 (oC hrd1_0 oN))) ?_
   refine Zp [zR 0,zR 1,.rd 2 [] 0 1,zR 3] [] [zI 5 (sumL (List.take i.toNat xs)+x)] (oC (show IntKind.i64.wrap (sumL (List.take i.toNat xs)+x)=sumL (List.take i.toNat xs)+x from wrap_i64 (by omega) (by omega)) oN) ?_
   refine J_eb ?_
   refine Zp [.rd 0 [] 0 1,zR 1] [] [zI 15 (i+1)] (oC (show IntKind.i64.wrap (i+1)=i+1 from wrap_i64 (by omega) (by omega)) oN) ?_
   rw[←sumL_snoc,take_snoc hi0 hx]
   refine J_backx (i+1) [2,3,5,13,14,15] [] [] [0,1,2,3] ?_ ?_ (by kernel_rfl) rfl rfl rfl
   ·exact⟨by omega,by omega⟩
   ·omega
  ·have e:xs.take i.toNat=xs:=List.take_of_length_le (by simp at hlt;omega)
   refine J_exit rfl ?_
   refine Zs (Rds 0 3) [16,5,13,14,15] [zI 2 (sumL (List.take i.toNat xs))] ?_
   refine Yr [[],[]] (.tuple #[nI (sumL (List.take i.toNat xs)),.nilIface]) fun a w s=>?_
   rw[e]
   exact .inr ⟨h2,s.ret (by simp) [] [] rfl rfl⟩
 ·refine⟨_,_,_,hR,?_⟩
  try simp only[aQ]
  refine Ya [zR 2] [9,8] [zV 4 (.iface 390 (.pointer (some (er (vecErr xs)))))] ?_
  refine JR_end ?_
  refine Zs [zR 0,zR 1] [] [zB 11 true] ?_
  refine cTt ?_
  refine Zs (Rds 0 3) [11,4] [zV 3 (.iface 390 (.pointer (some (er (vecErr xs)))))] ?_
  refine Yr [[],[]] (.tuple #[nI 0,.iface 390 (.pointer (some (er (vecErr xs))))]) fun a w s=>?_
  exact .inl ⟨h2,s.ret (by simp) [] [] rfl rfl⟩
end Go.Proofs.YtmkapocibaojdaaGreatDoor
end
section
namespace Go.Proofs.YtmkapocibaojdaaGreatDoor.Er
open Go Go.RowKit Go.Extern.Stop Go.Stop Go.Extern
theorem isTypeOf (v:Value) (w:World):(Extern.ReflectliteType.typeOf #[.iface 390 v]).run Tryz.prog w=.ok (.iface 330 (.agg #[.pointer (some ⟨13,390,none⟩)])) w:=by kernel_rfl
theorem isComparable (w:World):(callFunc 292 #[.agg #[.pointer (some ⟨13,390,none⟩)]]).run Tryz.prog w=.ok (.value (.bool true)) w:=by kernel_rfl
theorem isMethodComparable (v:Value) (w:World):(Go.method 523 330 v "Comparable").run Tryz.prog w=.ok (292,v) w:=by kernel_rfl
theorem isComp:(Tryz.prog.info? 390).map (·.comparable)=some true:=by kernel_rfl
theorem isSize:(Tryz.prog.info? 411).map (·.size)=some 1:=by kernel_rfl
theorem noIsE (v:Value) (xT:TypeId) (w:World):(Instr.typeAssert (.iface 390 v) xT 340 true).run Tryz.prog w=.ok (.tuple #[.nilIface,.bool false]) w:=run_typeAssert_lacksB Tryz.underlying340 (by kernel_rfl) (by kernel_rfl) v xT w
theorem noUnwrapE (v:Value) (xT:TypeId) (w:World):(Instr.typeAssert (.iface 390 v) xT 337 true).run Tryz.prog w=.ok (.tuple #[.nilIface,.bool false]) w:=run_typeAssert_lacksB Tryz.underlying337 (by kernel_rfl) (by kernel_rfl) v xT w
theorem noUnwrapsE (v:Value) (xT:TypeId) (w:World):(Instr.typeAssert (.iface 390 v) xT 338 true).run Tryz.prog w=.ok (.tuple #[.nilIface,.bool false]) w:=run_typeAssert_lacksB Tryz.underlying338 (by kernel_rfl) (by kernel_rfl) v xT w
theorem noAsE (v:Value) (xT:TypeId) (w:World):(Instr.typeAssert (.iface 390 v) xT 334 true).run Tryz.prog w=.ok (.tuple #[.nilIface,.bool false]) w:=run_typeAssert_lacksB Tryz.underlying334 (by kernel_rfl) (by kernel_rfl) v xT w
theorem is_same (a:Addr) (w:World) :
  Calls Tryz.prog 124 #[.iface 390 (.pointer (some a)),.iface 390 (.pointer (some a))] w fun e w'=>e=.returned (.bool true)∧w'=w:=by
 obtain⟨i,hi,hcmp⟩:=Option.map_eq_some_iff.1 isComp
 obtain⟨j,hj,hjs⟩:=Option.map_eq_some_iff.1 isSize
 have h8:=@run_callFunc_extern Tryz.prog 173 _ Extern.ReflectliteType.typeOf Tryz.func173 (by kernel_rfl) (by kernel_rfl) (by kernel_rfl) (by kernel_rfl)
 have tT:=isTypeOf
 have cT:=isComparable
 have mR:=isMethodComparable
 have heq:=run_eql_iface_ptr_same (P:=Tryz.prog) w a Tryz.underlying26 Tryz.underlying390 hi hcmp hj
 go_enter Tryz.func124,Tryz.ntmps124
 go_wp2
 refine wp_loop_rounds 1 ?_
 rw[rounds_succ]
 go_wp2
 go_ret
 exact⟨rfl,rfl⟩
theorem is_other (a b:Addr) (ca cb:Array Value) (ta tb:TypeId) (w:World) (hne:a≠b) (ha:w.heap[a.block]?=some (.cells ca ta (0,0))) (hb:w.heap[b.block]?=some (.cells cb tb (0,0))) :
  Calls Tryz.prog 124 #[.iface 390 (.pointer (some a)),.iface 390 (.pointer (some b))] w fun e w'=>e=.returned (.bool false)∧w'=w:=by
 obtain⟨i,hi,hcmp⟩:=Option.map_eq_some_iff.1 isComp
 obtain⟨j,hj,hjs⟩:=Option.map_eq_some_iff.1 isSize
 have h8:=@run_callFunc_extern Tryz.prog 173 _ Extern.ReflectliteType.typeOf Tryz.func173 (by kernel_rfl) (by kernel_rfl) (by kernel_rfl) (by kernel_rfl)
 have tT:=isTypeOf
 have cT:=isComparable
 have mR:=isMethodComparable
 have nE:=noIsE
 have uE:=noUnwrapE
 have vE:=noUnwrapsE
 have heq:=run_eql_iface_ptr_other (P:=Tryz.prog) w Tryz.underlying26 Tryz.underlying390 hi hcmp hj (by rw[hjs];decide) hne ha hb
 go_enter Tryz.func124,Tryz.ntmps124
 go_wp2
 refine wp_loop_rounds 1 ?_
 rw[rounds_succ]
 go_wp2
 go_ret
 exact⟨rfl,rfl⟩
theorem valueOfFF (t:Addr) (w:World):(ReflectliteValue.unpack (.iface 229 (.pointer (some t)))).run Tryz.prog w
  = .ok (.agg #[.pointer (some ⟨13,229,none⟩),.pointer (some ⟨w.heap.size,0,none⟩),.int .u64 150]) (w.alloc (.cells #[.pointer (some t)] 229)):=by kernel_rfl
theorem typeFF (a:Addr) (w:World):(ReflectliteValue.methodAny (ReflectliteValue.valueError "reflectlite.Value.Type" 0) (fun t _ _ _=>ReflectliteType.toType t) #[.agg #[.pointer (some ⟨13,229,none⟩),.pointer (some a),.int .u64 150]]).run Tryz.prog w
  = .ok (.iface 330 (.agg #[.pointer (some ⟨13,229,none⟩)])) w:=by kernel_rfl
theorem methodKind (h:Value) (w:World):(Go.method 523 330 (.agg #[h]) "Kind").run Tryz.prog w=.ok (280,h) w:=by kernel_rfl
theorem kindFF (w:World):((ReflectliteType.abiMethod fun t=>(fun a:Nat=>Value.int IntKind.u8 (a:Int)) <$> Rtype.kind t) #[.pointer (some ⟨13,229,none⟩)]).run Tryz.prog w=.ok (.int .u8 22) w:=by kernel_rfl
theorem kindF (w:World):((ReflectliteType.abiMethod fun t=>(fun a:Nat=>Value.int IntKind.u8 (a:Int)) <$> Rtype.kind t) #[.pointer (some ⟨13,202,none⟩)]).run Tryz.prog w=.ok (.int .u8 22) w:=by kernel_rfl
theorem rlm (z:Sem Value) (f:TypeId→Addr→Nat→Nat→Sem Value) (v:Value) :
  ReflectliteValue.method z f #[v]=(do match ← ReflectliteValue.parts v with|none=>z|some (t,a,fl)=>f t a fl (fl % 32)):=rfl
theorem partsFF (a:Addr) (w:World):(ReflectliteValue.parts (.agg #[.pointer (some ⟨13,229,none⟩),.pointer (some a),.int .u64 150])).run Tryz.prog w=.ok (some (229,a,150)) w:=by kernel_rfl
theorem isNilFF (a p:Addr) (W:World) (ha:W.cell? a=some (.pointer (some p))) :
  (ReflectliteValue.method (ReflectliteValue.valueError "reflectlite.Value.IsNil" 0) ReflectliteValue.isNil #[.agg #[.pointer (some ⟨13,229,none⟩),.pointer (some a),.int .u64 150]]).run Tryz.prog W=.ok (.bool false) W:=by
 rw[rlm]
 simp only[Sem.run_bind,partsFF,Result.andThen]
 simp[ReflectliteValue.isNil,loadVar,isAgg,underlying,Tryz.underlying229,ha,Result.andThen]
theorem methodElem (h:Value) (w:World):(Go.method 523 330 (.agg #[h]) "Elem").run Tryz.prog w=.ok (293,.agg #[h]) w:=by kernel_rfl
theorem methodImplements (h:Value) (w:World):(Go.method 523 330 (.agg #[h]) "Implements").run Tryz.prog w=.ok (294,.agg #[h]) w:=by kernel_rfl
theorem methodAssignableTo (h:Value) (w:World):(Go.method 523 330 (.agg #[h]) "AssignableTo").run Tryz.prog w=.ok (291,.agg #[h]) w:=by kernel_rfl
theorem elemFF (w:World):(ReflectliteType.method ReflectliteType.elem #[.agg #[.pointer (some ⟨13,229,none⟩)]]).run Tryz.prog w=.ok (.iface 330 (.agg #[.pointer (some ⟨13,202,none⟩)])) w:=by kernel_rfl
theorem implementsF (w:World):(ReflectliteType.relation "Implements" ReflectliteType.implements_ #[.agg #[.pointer (some ⟨13,202,none⟩)],.iface 330 (.agg #[.pointer (some ⟨13,26,none⟩)])]).run Tryz.prog w=.ok (.bool true) w:=by kernel_rfl
theorem typeOfF (v:Value) (w:World):(ReflectliteType.typeOf #[.iface 202 v]).run Tryz.prog w=.ok (.iface 330 (.agg #[.pointer (some ⟨13,202,none⟩)])) w:=by kernel_rfl
theorem assignableF (w:World):(ReflectliteType.relation "AssignableTo" ReflectliteType.assignableTo #[.agg #[.pointer (some ⟨13,202,none⟩)],.iface 330 (.agg #[.pointer (some ⟨13,202,none⟩)])]).run Tryz.prog w=.ok (.bool true) w:=by kernel_rfl
theorem assignableT (w:World):(ReflectliteType.relation "AssignableTo" ReflectliteType.assignableTo #[.agg #[.pointer (some ⟨13,390,none⟩)],.iface 330 (.agg #[.pointer (some ⟨13,202,none⟩)])]).run Tryz.prog w=.ok (.bool false) w:=by kernel_rfl
theorem valueOfF (e:Addr) (w:World):(ReflectliteValue.unpack (.iface 202 (.pointer (some e)))).run Tryz.prog w
  = .ok (.agg #[.pointer (some ⟨13,202,none⟩),.pointer (some ⟨w.heap.size,0,none⟩),.int .u64 150]) (w.alloc (.cells #[.pointer (some e)] 202)):=by kernel_rfl
theorem elemOfFF (w:World):(Rtype.elem? 229).run Tryz.prog w=.ok (some 202) w:=by kernel_rfl
theorem mkF (p:Addr) (w:World):(ReflectliteValue.mk 202 p ReflectliteValue.flagAddr).run Tryz.prog w=.ok (.agg #[.pointer (some ⟨13,202,none⟩),.pointer (some p),.int .u64 406]) w:=by kernel_rfl
theorem elemVFF (a p:Addr) (W:World) (ha:W.cell? a=some (.pointer (some p))) :
  (ReflectliteValue.method (ReflectliteValue.valueError "reflectlite.Value.Elem" 0) ReflectliteValue.elem #[.agg #[.pointer (some ⟨13,229,none⟩),.pointer (some a),.int .u64 150]]).run Tryz.prog W
   = .ok (.agg #[.pointer (some ⟨13,202,none⟩),.pointer (some p),.int .u64 406]) W:=by
 rw[rlm]
 simp only[Sem.run_bind,partsFF,Result.andThen]
 simp[ReflectliteValue.elem,loadVar,isAgg,underlying,Tryz.underlying229,ha,Result.andThen,elemOfFF,mkF]
theorem rls (v x:Value):ReflectliteValue.set #[v,x]=(do
  let (some (dst,a,fl),some (src,b,_)):=(← ReflectliteValue.parts v,←ReflectliteValue.parts x)
   | unsupported (.noEntry "extern/(internal/reflectlite.Value).Set.zeroValue")
  if fl / ReflectliteValue.flagAddr % 2==0 then unsupported (.noEntry "extern/(internal/reflectlite.Value).Set.unaddressable")
  let val ← loadVar src b
  if ← Rtype.directlyAssignable dst src then storeVar dst a val
  else if ← Rtype.implements dst src then
   if (← Rtype.kind src)==20 then
    match val with
    | .nilIface=>unsupported (.noEntry "extern/reflectlite: a nil value of one interface type handed on as a value of another")
    | _=>storeVar dst a val
   else storeVar dst a (.iface src val)
  else panicString ("reflectlite.Set: value of type " ++ (← Rtype.spelt src) ++ " is not assignable to type " ++ (← Rtype.spelt dst))
  pure (.tuple #[])):=rfl
theorem partsFa (a:Addr) (w:World):(ReflectliteValue.parts (.agg #[.pointer (some ⟨13,202,none⟩),.pointer (some a),.int .u64 406])).run Tryz.prog w=.ok (some (202,a,406)) w:=by kernel_rfl
theorem partsF (a:Addr) (w:World):(ReflectliteValue.parts (.agg #[.pointer (some ⟨13,202,none⟩),.pointer (some a),.int .u64 150])).run Tryz.prog w=.ok (some (202,a,150)) w:=by kernel_rfl
theorem directF (w:World):(Rtype.directlyAssignable 202 202).run Tryz.prog w=.ok true w:=by kernel_rfl
theorem setF (ta b e:Addr) (old:Value) (W:World) (hb:W.cell? b=some (.pointer (some e))) (ht:W.cell? ta=some old) (hf:W.frozen? ta=false) :
  (ReflectliteValue.set #[.agg #[.pointer (some ⟨13,202,none⟩),.pointer (some ta),.int .u64 406],.agg #[.pointer (some ⟨13,202,none⟩),.pointer (some b),.int .u64 150]]).run Tryz.prog W
   = .ok (.tuple #[]) (W.setCell ta (.pointer (some e))):=by
 rw[rls]
 simp only[Sem.run_bind,partsFa,partsF,Result.andThen]
 simp[ReflectliteValue.flagAddr,loadVar,isAgg,underlying,Tryz.underlying202,hb,Result.andThen,directF,storeVar,Value.cells,storeCells,Addr.add]
 rw[run_store Tryz.prog W ta _ _ (by rfl)]
 simp[ht,hf]
theorem cell_lt {w:World} {a:Addr} {v:Value} (h:w.cell? a=some v):a.block<w.heap.size:=by
 rcases Nat.lt_or_ge a.block w.heap.size with h'|h'
 ·exact h'
 ·simp[World.cell?,Array.getElem?_eq_none h']at h
set_option maxHeartbeats 4000000 in
theorem as_hit (e t:Addr) (old:Value) (w:World) (hg:w.cell? ⟨12,0,none⟩=some (.iface 330 (.agg #[.pointer (some ⟨13,26,none⟩)]))) (ht0:w.cell? t=some old) (hf0:w.frozen? t=false) :
  Calls Tryz.prog 123 #[.iface 202 (.pointer (some e)),.iface 229 (.pointer (some t))] w fun ev w'=>ev=.returned (.bool true)∧w'=((((w.alloc (.cells #[.pointer (some t)] 229)).alloc (.cells #[.pointer (some ⟨13,229,none⟩),.pointer (some ⟨w.heap.size,0,none⟩),.int .u64 150] 285)).alloc (.cells #[.pointer (some ⟨13,229,none⟩),.pointer (some ⟨w.heap.size,0,none⟩),.int .u64 150] 285)).alloc (.cells #[.pointer (some e)] 202)).setCell t (.pointer (some e)):=by
 have h6:=@run_callFunc_extern Tryz.prog 169 _ (fun args=>ReflectliteValue.unpack (args.getD 0 (.tuple #[]))) Tryz.func169 (by kernel_rfl) (by kernel_rfl) (by kernel_rfl) (by kernel_rfl)
 have h7:=@run_callFunc_extern Tryz.prog 170 _ (ReflectliteValue.methodAny (ReflectliteValue.valueError "reflectlite.Value.Type" 0) (fun t _ _ _=>ReflectliteType.toType t)) Tryz.func170 (by kernel_rfl) (by kernel_rfl) (by kernel_rfl) (by kernel_rfl)
 have h8:=@run_callFunc_extern Tryz.prog 171 _ (ReflectliteValue.method (ReflectliteValue.valueError "reflectlite.Value.IsNil" 0) ReflectliteValue.isNil) Tryz.func171 (by kernel_rfl) (by kernel_rfl) (by kernel_rfl) (by kernel_rfl)
 have h27:=@run_callFunc_extern Tryz.prog 280 _ (ReflectliteType.abiMethod fun t=>do pure (.int .u8 (← Rtype.kind t))) Tryz.func280 (by kernel_rfl) (by kernel_rfl) (by kernel_rfl) (by kernel_rfl)
 have h37:=@run_callFunc_extern Tryz.prog 293 _ (ReflectliteType.method ReflectliteType.elem) Tryz.func293 (by kernel_rfl) (by kernel_rfl) (by kernel_rfl) (by kernel_rfl)
 have h38:=@run_callFunc_extern Tryz.prog 294 _ (ReflectliteType.relation "Implements" ReflectliteType.implements_) Tryz.func294 (by kernel_rfl) (by kernel_rfl) (by kernel_rfl) (by kernel_rfl)
 have h10:=@run_callFunc_extern Tryz.prog 173 _ ReflectliteType.typeOf Tryz.func173 (by kernel_rfl) (by kernel_rfl) (by kernel_rfl) (by kernel_rfl)
 have h35:=@run_callFunc_extern Tryz.prog 291 _ (ReflectliteType.relation "AssignableTo" ReflectliteType.assignableTo) Tryz.func291 (by kernel_rfl) (by kernel_rfl) (by kernel_rfl) (by kernel_rfl)
 have h11:=@run_callFunc_extern Tryz.prog 208 _ (ReflectliteValue.method (ReflectliteValue.valueError "reflectlite.Value.Elem" 0) ReflectliteValue.elem) Tryz.func208 (by kernel_rfl) (by kernel_rfl) (by kernel_rfl) (by kernel_rfl)
 have h12:=@run_callFunc_extern Tryz.prog 209 _ ReflectliteValue.set Tryz.func209 (by kernel_rfl) (by kernel_rfl) (by kernel_rfl) (by kernel_rfl)
 have tO:=typeOfF
 have mA:=methodAssignableTo
 have a25:=assignableF
 have v25:=valueOfF
 have f6:=valueOfFF
 have f7:=typeFF
 have mK:=methodKind
 have mE:=methodElem
 have mI:=methodImplements
 have k27:=kindFF
 have k25:=kindF
 have e27:=elemFF
 have i25:=implementsF
 have n8:=isNilFF ⟨w.heap.size,0,none⟩ t ((w.alloc (.cells #[.pointer (some t)] 229)).alloc (.cells #[.pointer (some ⟨13,229,none⟩),.pointer (some ⟨w.heap.size,0,none⟩),.int .u64 150] 285)) (by simp)
 have hlt:12<w.heap.size:=cell_lt hg
 have hg2:((w.alloc (.cells #[.pointer (some t)] 229)).alloc (.cells #[.pointer (some ⟨13,229,none⟩),.pointer (some ⟨w.heap.size,0,none⟩),.int .u64 150] 285)).cell? ⟨12,0,none⟩=some (.iface 330 (.agg #[.pointer (some ⟨13,26,none⟩)])):=by
  rw[World.cell?_alloc_lt _ _ ⟨12,0,none⟩ (by simp;omega),World.cell?_alloc_lt _ _ ⟨12,0,none⟩ hlt];exact hg
 have htl:t.block<w.heap.size:=cell_lt ht0
 have el:=elemVFF ⟨w.heap.size,0,none⟩ t (((w.alloc (.cells #[.pointer (some t)] 229)).alloc (.cells #[.pointer (some ⟨13,229,none⟩),.pointer (some ⟨w.heap.size,0,none⟩),.int .u64 150] 285)).alloc (.cells #[.pointer (some ⟨13,229,none⟩),.pointer (some ⟨w.heap.size,0,none⟩),.int .u64 150] 285)) (by rw[World.cell?_alloc_lt _ _ _ (by simp;omega),World.cell?_alloc_lt _ _ _ (by simp),World.cell?_alloc_at _ _ _ _ (by simp)];rfl)
 have st:=setF t ⟨w.heap.size+1+1+1,0,none⟩ e old ((((w.alloc (.cells #[.pointer (some t)] 229)).alloc (.cells #[.pointer (some ⟨13,229,none⟩),.pointer (some ⟨w.heap.size,0,none⟩),.int .u64 150] 285)).alloc (.cells #[.pointer (some ⟨13,229,none⟩),.pointer (some ⟨w.heap.size,0,none⟩),.int .u64 150] 285)).alloc (.cells #[.pointer (some e)] 202))
  (by rw[World.cell?_alloc_at _ _ _ _ (by simp)];rfl)
  (by rw[World.cell?_alloc_lt _ _ t (by simp;omega),World.cell?_alloc_lt _ _ t (by simp;omega),World.cell?_alloc_lt _ _ t (by simp;omega),World.cell?_alloc_lt _ _ t htl];exact ht0)
  (by rw[World.frozen?_alloc_old _ _ t (by simp;omega),World.frozen?_alloc_old _ _ t (by simp;omega),World.frozen?_alloc_old _ _ t (by simp;omega),World.frozen?_alloc_old _ _ t (Nat.ne_of_lt htl)];exact hf0)
 go_enter Tryz.func123,Tryz.ntmps123
 go_wp2
 refine wp_loop_rounds 1 ?_
 rw[rounds_succ]
 go_wp2
 go_ret
 exact⟨rfl,rfl⟩
set_option maxHeartbeats 4000000 in
theorem as_miss (e t:Addr) (w:World) (hg:w.cell? ⟨12,0,none⟩=some (.iface 330 (.agg #[.pointer (some ⟨13,26,none⟩)]))) :
  Calls Tryz.prog 123 #[.iface 390 (.pointer (some e)),.iface 229 (.pointer (some t))] w fun ev w'=>ev=.returned (.bool false)∧w'=(((w.alloc (.cells #[.pointer (some t)] 229)).alloc (.cells #[.pointer (some ⟨13,229,none⟩),.pointer (some ⟨w.heap.size,0,none⟩),.int .u64 150] 285)).alloc (.cells #[.pointer (some ⟨13,229,none⟩),.pointer (some ⟨w.heap.size,0,none⟩),.int .u64 150] 285)):=by
 have h6:=@run_callFunc_extern Tryz.prog 169 _ (fun args=>ReflectliteValue.unpack (args.getD 0 (.tuple #[]))) Tryz.func169 (by kernel_rfl) (by kernel_rfl) (by kernel_rfl) (by kernel_rfl)
 have h7:=@run_callFunc_extern Tryz.prog 170 _ (ReflectliteValue.methodAny (ReflectliteValue.valueError "reflectlite.Value.Type" 0) (fun t _ _ _=>ReflectliteType.toType t)) Tryz.func170 (by kernel_rfl) (by kernel_rfl) (by kernel_rfl) (by kernel_rfl)
 have h8:=@run_callFunc_extern Tryz.prog 171 _ (ReflectliteValue.method (ReflectliteValue.valueError "reflectlite.Value.IsNil" 0) ReflectliteValue.isNil) Tryz.func171 (by kernel_rfl) (by kernel_rfl) (by kernel_rfl) (by kernel_rfl)
 have h27:=@run_callFunc_extern Tryz.prog 280 _ (ReflectliteType.abiMethod fun t=>do pure (.int .u8 (← Rtype.kind t))) Tryz.func280 (by kernel_rfl) (by kernel_rfl) (by kernel_rfl) (by kernel_rfl)
 have h37:=@run_callFunc_extern Tryz.prog 293 _ (ReflectliteType.method ReflectliteType.elem) Tryz.func293 (by kernel_rfl) (by kernel_rfl) (by kernel_rfl) (by kernel_rfl)
 have h38:=@run_callFunc_extern Tryz.prog 294 _ (ReflectliteType.relation "Implements" ReflectliteType.implements_) Tryz.func294 (by kernel_rfl) (by kernel_rfl) (by kernel_rfl) (by kernel_rfl)
 have h10:=@run_callFunc_extern Tryz.prog 173 _ ReflectliteType.typeOf Tryz.func173 (by kernel_rfl) (by kernel_rfl) (by kernel_rfl) (by kernel_rfl)
 have h35:=@run_callFunc_extern Tryz.prog 291 _ (ReflectliteType.relation "AssignableTo" ReflectliteType.assignableTo) Tryz.func291 (by kernel_rfl) (by kernel_rfl) (by kernel_rfl) (by kernel_rfl)
 have tO:=isTypeOf
 have mA:=methodAssignableTo
 have a25:=assignableT
 have f6:=valueOfFF
 have f7:=typeFF
 have mK:=methodKind
 have mE:=methodElem
 have mI:=methodImplements
 have k27:=kindFF
 have k25:=kindF
 have e27:=elemFF
 have i25:=implementsF
 have nA:=noAsE
 have uE:=noUnwrapE
 have vE:=noUnwrapsE
 have n8:=isNilFF ⟨w.heap.size,0,none⟩ t ((w.alloc (.cells #[.pointer (some t)] 229)).alloc (.cells #[.pointer (some ⟨13,229,none⟩),.pointer (some ⟨w.heap.size,0,none⟩),.int .u64 150] 285)) (by simp)
 have hlt:12<w.heap.size:=cell_lt hg
 have hg2:((w.alloc (.cells #[.pointer (some t)] 229)).alloc (.cells #[.pointer (some ⟨13,229,none⟩),.pointer (some ⟨w.heap.size,0,none⟩),.int .u64 150] 285)).cell? ⟨12,0,none⟩=some (.iface 330 (.agg #[.pointer (some ⟨13,26,none⟩)])):=by
  rw[World.cell?_alloc_lt _ _ ⟨12,0,none⟩ (by simp;omega),World.cell?_alloc_lt _ _ ⟨12,0,none⟩ hlt];exact hg
 go_enter Tryz.func123,Tryz.ntmps123
 go_wp2
 refine wp_loop_rounds 1 ?_
 rw[rounds_succ]
 go_wp2
 go_ret
 exact⟨rfl,rfl⟩
end Go.Proofs.YtmkapocibaojdaaGreatDoor.Er
end
section
namespace Go.Proofs.YtmkapocibaojdaaGreatDoor
open Go Go.Sx
abbrev eO (er:Nat→Addr) (eb:Nat→Array Value×TypeId) (k:Nat):Value×D:=(.pointer (some (er k)),.obj (.cells (eb k).1 (eb k).2 (0,0)))
def cglobs (er:Nat→Addr) (eb:Nat→Array Value×TypeId):List (Value×D):=[dE 390 er 7 1,dE 390 er 0 2,dE 390 er 1 3,dE 390 er 8 4,dE 390 er 4 5,dE 390 er 9 6,dE 390 er 10 7,dE 390 er 6 8,dE 390 er 5 9,dE 390 er 2 10,dE 390 er 3 11,dE 390 er 11 12,(.pointer (some ⟨12,0,none⟩),.ptr [.v (.iface 330 (.agg #[.pointer (some ⟨13,26,none⟩)]))]),eO er eb 1,eO er eb 2,eO er eb 3,eO er eb 4,eO er eb 5,eO er eb 6,eO er eb 7,eO er eb 8,eO er eb 9,eO er eb 10,eO er eb 11,eO er eb 12]
abbrev dC (er:Nat→Addr) (eb:Nat→Array Value×TypeId):D:=.all (cglobs er eb)
def Inj (er:Nat→Addr):Prop:=∀i j,1≤i→i≤12→1≤j→j≤12→er i=er j→i=j
theorem eO_mem (er:Nat→Addr) (eb:Nat→Array Value×TypeId) {k:Nat} (h1:1≤k) (h2:k≤12):eO er eb k∈cglobs er eb:=by
 rcases(by omega:k=1∨k=2∨k=3∨k=4∨k=5∨k=6∨k=7∨k=8∨k=9∨k=10∨k=11∨k=12)with rfl|rfl|rfl|rfl|rfl|rfl|rfl|rfl|rfl|rfl|rfl|rfl <;> simp[cglobs,eO]
set_option maxHeartbeats 4000000 in
theorem globs_of {w:World} {S:Nat→Prop} {er:Nat→Addr} {eb:Nat→Array Value×TypeId} (h:Rep w S .nilIface (dC er eb)):AllG w S (globs er):=
 .cons (.v rfl) (.cons (h.part _ (List.mem_of_getElem? (i:=1) rfl)) (.cons (h.part _ (List.mem_of_getElem? (i:=2) rfl)) (.nil _ _)))
set_option maxHeartbeats 4000000 in
theorem blk_of {w:World} {S:Nat→Prop} {a:Addr} {o:Obj} (h:Rep w S (.pointer (some a)) (.obj o)):w.heap[a.block]?=some o:=by
 cases h with
 | obj hb=>exact hb
set_option maxHeartbeats 4000000 in
theorem var_of {w:World} {S:Nat→Prop} {g:Nat} {v:Value} (h:Rep w S (.pointer (some ⟨g,0,none⟩)) (.ptr [.v v])):w.cell? ⟨g,0,none⟩=some v:=by
 cases h with
 | ptr u hb hS hcell hrep=>
  have h1:=(hrep 0 _ rfl).plain
  have h2:=hcell 0 (by simp)
  rw[h1]at h2
  simpa [World.cell?,hb]using h2
set_option maxHeartbeats 4000000 in
theorem isAt {w:World} {S:Nat→Prop} {a:Addr} {ca:Array Value} {ta:TypeId} {er:Nat→Addr} {eb:Nat→Array Value×TypeId} {j:Nat} (hC:Rep w S .nilIface (dC er eb)) (ha:Rep w S (.pointer (some a)) (.obj (.cells ca ta (0,0)))) (h1:1≤j) (h2:j≤12) :
  Calls Tryz.prog 124 #[.iface 390 (.pointer (some a)),.iface 390 (.pointer (some (er j)))] w fun e w'=>Ret [] w S w' e (.bool (decide (a=er j))) [] []:=by
 by_cases h:a=er j
 ·subst h
  rw[decide_eq_true rfl]
  exact(Er.is_same _ w).mono fun e w' h=>ret_same h.1 h.2
 ·rw[decide_eq_false h]
  exact(Er.is_other a (er j) ca (eb j).1 ta (eb j).2 w h (blk_of ha) (blk_of (hC.part _ (eO_mem er eb h1 h2)))).mono fun e w' h=>ret_same h.1 h.2
set_option maxHeartbeats 4000000 in
theorem asMiss {w:World} {S:Nat→Prop} {a t:Addr} {er:Nat→Addr} {eb:Nat→Array Value×TypeId} (hC:Rep w S .nilIface (dC er eb)) :
  Calls Tryz.prog 123 #[.iface 390 (.pointer (some a)),.iface 229 (.pointer (some t))] w fun e w'=>Ret [] w S w' e (.bool false) [] []:=
 (Er.as_miss a t w (var_of (hC.part _ (List.mem_of_getElem? (i:=12) rfl)))).mono fun e w' h=>ret_below h.1 (by
  rw[h.2]
  exact(((RowKit.Below.refl _ w).alloc (Nat.le_refl _) _).alloc (by simp) _).alloc (by simp;omega) _) (by rw[h.2];exact Nat.le_refl _)
abbrev eEr (er:Nat→Addr) (k:Nat):List D:=[.v (.iface 390 (.pointer (some (er k))))]
theorem row12 {i:Int} (h0:0≤i) (h1:i<12):([1,2,3,4,5,6,7,8,9,10,11,12]:List Nat)[i.toNat]?=some (i.toNat+1):=by
 obtain⟨n,rfl⟩:∃n:Nat,i=n:=⟨i.toNat,by omega⟩
 rcases(by omega:n=0∨n=1∨n=2∨n=3∨n=4∨n=5∨n=6∨n=7∨n=8∨n=9∨n=10∨n=11)with rfl|rfl|rfl|rfl|rfl|rfl|rfl|rfl|rfl|rfl|rfl|rfl <;> rfl
set_option maxHeartbeats 4000000 in
theorem codeErr {w:World} {S:Nat→Prop} {er:Nat→Addr} {eb:Nat→Array Value×TypeId} {k:Nat} {v:Value} (hC:Rep w S .nilIface (dC er eb)) (hI:Inj er) (hk:k≤12) (hv:ErrIs 390 er k v) :
  Calls Tryz.prog 60 #[v] w fun e w'=>Ret [] w S w' e (.tuple #[.int .i64 k,.int .i64 (-1)]) [] []:=by
 rcases hv with ⟨rfl,rfl⟩|⟨h0,rfl⟩
 ·refine epG Tryz.func60 bd60 (args:=[.nilIface]) (S:=S) (G:=[]) (by kernel_rfl) (.nil _ _) ?_
  refine Zs [zR 0,zR 1] [] [zI 2 0,zI 3 0] ?_
  refine J_seq ?_
  refine Zs [zR 0,zR 1] [] [zB 8 true] ?_
  refine cTt ?_
  refine Zs [zR 0,zR 1] [8] [zI 3 (-1)] ?_
  refine Yr [[],[]] (.tuple #[nI 0,nI (-1)]) fun a w s=>?_
  exact s.ret (by simp) [] [] rfl rfl
 ·refine epG Tryz.func60 bd60 (args:=[.iface 390 (.pointer (some (er k)))]) (G:=[(_,dC er eb)]) (by kernel_rfl) (.cons hC (.nil _ _)) ?_
  refine J_stp (stp_all 0 [0,1,2,3,4,5,6,7,8,9,10,11] rfl rfl) ?_
  refine J_glob 1 rfl (fun csg1 tyg1 fzg1 hglob1=>?_)
  refine J_glob 2 rfl (fun csg2 tyg2 fzg2 hglob2=>?_)
  refine J_glob 3 rfl (fun csg3 tyg3 fzg3 hglob3=>?_)
  refine J_glob 4 rfl (fun csg4 tyg4 fzg4 hglob4=>?_)
  refine J_glob 5 rfl (fun csg5 tyg5 fzg5 hglob5=>?_)
  refine J_glob 6 rfl (fun csg6 tyg6 fzg6 hglob6=>?_)
  refine J_glob 7 rfl (fun csg7 tyg7 fzg7 hglob7=>?_)
  refine J_glob 8 rfl (fun csg8 tyg8 fzg8 hglob8=>?_)
  refine J_glob 9 rfl (fun csg9 tyg9 fzg9 hglob9=>?_)
  refine J_glob 10 rfl (fun csg10 tyg10 fzg10 hglob10=>?_)
  refine J_glob 11 rfl (fun csg11 tyg11 fzg11 hglob11=>?_)
  refine J_glob 12 rfl (fun csg12 tyg12 fzg12 hglob12=>?_)
  try simp only[aQ]
  refine Zs [zR 0,zR 1] [] [zI 2 0,zI 3 0] ?_
  refine J_seq ?_
  refine Zs [zR 0,zR 1] [] [zB 8 false] ?_
  refine cF ?_
  refine J_skip ?_
  refine Zs [zR 0] [8] [zI 3 (-1)] ?_
  refine Zv [.wr 0 [] 0] [] [] (fun nu1=>[zP 4 (nu1 0)]) o0 (fun nu1=>[(nu1 0,.cells #[.pointer none] 202 (0,0))]) (fun nu1=>?_)
  refine J_seq ?_
  refine jS [(0,true),(1,true),(2,false)] [] ?_
  refine Ya [zR 0,zR 1] [] [zV 9 (.iface 390 (.pointer (some (er k)))),zV 10 (.iface 229 (.pointer (sA (nu1 0) 0)))] ?_
  refine Yc 123 #[.iface 390 (.pointer (some (er k))),.iface 229 (.pointer (sA (nu1 0) 0))] (some 11) fun w S hG=>?_
  refine(asMiss (hG.at 0 rfl)).mono ?_
  rintro e1 w1 hR
  refine⟨_,_,_,hR,?_⟩
  try simp only[aQ]
  refine JR_end ?_
  refine cF ?_
  refine J_skip (J_seq ?_)
  refine Zu [.rd 0 [.r 0 (some (.iface 390 (.pointer (some (er 1)))))] 0 0,.rd 1 [.r 1 (some (.iface 390 (.pointer (some (er 2)))))] 0 0,.rd 2 [.r 2 (some (.iface 390 (.pointer (some (er 3)))))] 0 0,.rd 3 [.r 3 (some (.iface 390 (.pointer (some (er 4)))))] 0 0,.rd 4 [.r 4 (some (.iface 390 (.pointer (some (er 5)))))] 0 0,.rd 5 [.r 5 (some (.iface 390 (.pointer (some (er 6)))))] 0 0,.rd 6 [.r 6 (some (.iface 390 (.pointer (some (er 7)))))] 0 0,.rd 7 [.r 7 (some (.iface 390 (.pointer (some (er 8)))))] 0 0,.rd 8 [.r 8 (some (.iface 390 (.pointer (some (er 9)))))] 0 0,.rd 9 [.r 9 (some (.iface 390 (.pointer (some (er 10)))))] 0 0,.rd 10 [.r 10 (some (.iface 390 (.pointer (some (er 11)))))] 0 0,.rd 11 [.r 11 (some (.iface 390 (.pointer (some (er 12)))))] 0 0,.wr 12 [] 0,zR 13,zR 14] [] [11,9,10,4] (fun nu2=>[zS 28 (sA (nu2 0) 0) 12 12,zI 29 12,zI 30 0]) o0 (fun nu2=>[(nu2 0,.cells #[.iface 390 (.pointer (some (er 1))),.iface 390 (.pointer (some (er 2))),.iface 390 (.pointer (some (er 3))),.iface 390 (.pointer (some (er 4))),.iface 390 (.pointer (some (er 5))),.iface 390 (.pointer (some (er 6))),.iface 390 (.pointer (some (er 7))),.iface 390 (.pointer (some (er 8))),.iface 390 (.pointer (some (er 9))),.iface 390 (.pointer (some (er 10))),.iface 390 (.pointer (some (er 11))),.iface 390 (.pointer (some (er 12)))] 26 (0,0))]) (fun nu2=>(oC hglob1 (oC hglob2 (oC hglob3 (oC hglob4 (oC hglob5 (oC hglob6 (oC hglob7 (oC hglob8 (oC hglob9 (oC hglob10 (oC hglob11 (oC hglob12 oN))))))))))))) (fun nu2=>?_)
  refine J_block ?_
  refine J_data (size:=1) 1 (eEr er) [1,2,3,4,5,6,7,8,9,10,11,12] 12 rfl (by decide) (by intro x _;rfl) (by simp) ⟨.inl ⟨rfl,rfl⟩,⟨.inl ⟨rfl,rfl⟩,⟨.inl ⟨rfl,rfl⟩,⟨.inl ⟨rfl,rfl⟩,⟨.inl ⟨rfl,rfl⟩,⟨.inl ⟨rfl,rfl⟩,⟨.inl ⟨rfl,rfl⟩,⟨.inl ⟨rfl,rfl⟩,⟨.inl ⟨rfl,rfl⟩,⟨.inl ⟨rfl,rfl⟩,⟨.inl ⟨rfl,rfl⟩,⟨.inl ⟨rfl,rfl⟩,trivial⟩⟩⟩⟩⟩⟩⟩⟩⟩⟩⟩⟩ ?_
  refine J_loopx (fun i:Int=>[zV 0 (.iface 390 (.pointer (some (er k)))),zI 2 0,zI 3 (-1),zS 28 (sA (nu2 0) 0) 12 12,zI 29 12,zI 30 i]) (fun i:Int=>[]) (fun i:Int=>[]) (fun i:Int=>[(.nilIface,(dC er eb)),(.slice (sA (nu2 0) 0) ((List.map (eEr er) [1,2,3,4,5,6,7,8,9,10,11,12]).length) 12,(D.sl 1 (List.map (eEr er) [1,2,3,4,5,6,7,8,9,10,11,12])))]) (fun i:Int=>(12 - i).toNat) (fun i:Int=>(0≤i∧i<k)) 0 [0,2,3,28,29,30] [] [] [0,13] ?_ (by kernel_rfl) rfl rfl rfl ?_
  ·exact⟨by omega,by omega⟩
  rintro i ⟨hi0,hi⟩
  have hx:=row12 hi0 (by omega)
  refine J_read0 1 rfl i.toNat (map_at hx) (by kernel_rfl) (fun b1 off1 cs1 ty1 fz1 ha1 hrd1=>?_)
  cases ha1
  have hrd1_0:=rd0 (hrd1 0 _ rfl)
  try simp only[aQ]
  refine Zs [zR 0] [] [zB 31 (decide (i<12))] ?_
  refine J_seq ?_
  refine J_condT (decide (i<12)) (by kernel_rfl) (by kernel_rfl) (by simp;omega) ?_
  refine J_skip (J_seq (J_block ?_))
  refine Zt [zR 0,.rd 1 [] 0 2,.rd 2 [.r 12 (some (.iface 390 (.pointer (some (er (i.toNat+1))))))] 0 0,zR 3,zR 4] [31] [zI 5 i,zV 6 (.iface 390 (.pointer (some (er (i.toNat+1)))))] (oC hi0 (oC (show i<(↑(12:Nat):Int) from by omega) (oC hrd1_0 oN))) ?_
  refine jS [(0,true),(1,true),(2,false)] [] ?_
  refine Ya [zR 0,zR 1] [] [zV 35 (.iface 390 (.pointer (some (er k)))),zV 36 (.iface 390 (.pointer (some (er (i.toNat+1)))))] ?_
  refine Yc 124 #[.iface 390 (.pointer (some (er k))),.iface 390 (.pointer (some (er (i.toNat+1))))] (some 37) fun w S hG=>?_
  refine(isAt (hG.at 0 rfl) ((hG.at 0 rfl).part _ (eO_mem er eb (k:=k) (by omega) hk)) (by omega) (by omega)).mono ?_
  rintro e2 w2 hR
  refine⟨_,_,_,hR,?_⟩
  try simp only[aQ]
  refine JR_end ?_
  refine cC (t:=decide (er k=er (i.toNat+1))) (fun hb=>?_) (fun hb=>?_)
  ·refine J_seq ?_
   refine Zp ([zR 0,.rd 1 [] 0 1]++Rds 2 5) [37] [zI 2 (i+1)] (oC (show IntKind.i64.wrap (i+1)=i+1 from wrap_i64 (by omega) (by omega)) oN) ?_
   refine Yr [[],[]] (.tuple #[nI (i+1),nI (-1)]) fun a w s=>?_
   have e:i+1=k:=by
    have:=hI k (i.toNat+1) (by omega) hk (by omega) (by omega) (of_decide_eq_true hb)
    omega
   rw[e]
   exact s.ret (by simp) [] [] rfl rfl
  ·refine J_skip ?_
   refine J_eb ?_
   refine Zp [.rd 0 [] 0 1,zR 1] [37] [zI 30 (i+1)] (oC (show IntKind.i64.wrap (i+1)=i+1 from wrap_i64 (by omega) (by omega)) oN) ?_
   refine J_backx (i+1) [0,2,3,28,29,30] [] [] [0,1] ?_ ?_ (by kernel_rfl) rfl rfl rfl
   ·refine⟨by omega,?_⟩
    rcases(by omega:i+1<k∨(i.toNat+1=k))with h|h
    ·exact h
    ·rw[h]at hb
     simp at hb
   ·omega
set_option maxHeartbeats 4000000 in
theorem codedErr {w:World} {S:Nat→Prop} {er:Nat→Addr} {eb:Nat→Array Value×TypeId} {k:Nat} {c:Int} {v:Value} (hC:Rep w S .nilIface (dC er eb)) (hI:Inj er) (hk:k≤12) (hv:ErrIs 390 er k v) :
  Calls Tryz.prog 13 #[v,.int .i64 c] w fun e w'=>Ret [] w S w' e (.bool (decide ((k:Int)=c))) [] []:=by
 refine epG Tryz.func13 bd13 (args:=[v,.int .i64 c]) (G:=[(_,dC er eb)]) (by kernel_rfl) (.cons hC (.nil _ _)) ?_
 refine Zs [zR 0] [] [zB 4 false] ?_
 refine jS [(0,true),(1,false),(2,true),(3,true),(4,true),(5,true),(6,true)] [] ?_
 refine Ya [zR 0] [0] [zV 8 v] ?_
 refine Yc 60 #[v] (some 9) fun w S hG=>?_
 refine(codeErr (er:=er) (eb:=eb) (k:=k) (hG.at 0 rfl) hI hk hv).mono ?_
 rintro e1 w1 hR
 refine⟨_,_,_,hR,?_⟩
 try simp only[aQ]
 refine Ya (Rds 2 7) [9,8] [zI 5 (↑k:Int),zI 6 (-1)] ?_
 refine JR_end ?_
 refine Zs (Rds 0 4++[.rd 4 [] 2 0,.rd 5 [] 2 0,.rd 6 [] 0 3,zR 7]) [5,6,1] [zB 4 ((↑k:Int)==c&&true)] ?_
 refine Yr [[]] (.bool ((↑k:Int)==c&&true)) fun a w s=>?_
 have e:decide ((k:Int)=c)=(decide ((k:Int)=c)&&true):=by simp
 rw[e]
 exact s.ret (by simp) [] [] rfl rfl
end Go.Proofs.YtmkapocibaojdaaGreatDoor
end
section
namespace Go.Proofs.YtmkapocibaojdaaGreatDoor
open Go Go.Sx
def dotOk (places:Int) (d:DotT):Bool:=((((decide (d.place≥0)&&decide (d.place<places))&&decide (d.time≥1))&&decide (d.time≤1099511627776))&&decide (d.no≥0))&&decide (d.no<12)
def shapeOk (o:OpT):Bool:=
 if o.kind=1 then o.n==0&&!o.remove&&(o.dots.length:Int)==0
 else if o.kind=2 then o.text.toList==(ByteArray.mk #[]).toList&&!o.remove&&(o.dots.length:Int)==0
 else o.n==0&&(o.remove||(o.dots.length:Int)==0)
def badDots (places:Int) (l:List DotT):Bool:=l.any fun d=>!dotOk places d
def opErr (o:OpT) (places:Int):Nat:=
 if places<1∨6<places∨o.no<0∨12≤o.no then 2
 else if nameOk o.key=false then 4
 else if o.kind≠1∧o.kind≠2∧o.kind≠3 then 12
 else if shapeOk o=false then 3
 else if 60<o.text.size∨o.n < -1099511627776∨1099511627776<o.n∨60<o.dots.length then 2
 else if badDots places o.dots=true then 2
 else 0
abbrev dotA (d:DotT):Value:=.agg #[.int .i64 d.place,.int .i64 d.time,.int .i64 d.no]
abbrev opA (o:OpT) (v:Value):Value:=.agg #[.int .i64 o.no,.string o.key,.int .i64 o.kind,.string o.text,.int .i64 o.n,.bool o.remove,v]
set_option maxHeartbeats 4000000 in
theorem vDot {w:World} {S:Nat→Prop} {d:DotT} {places:Int}:Calls Tryz.prog 187 #[dotA d,.int .i64 places] w fun e w'=>Ret [] w S w' e (.bool (dotOk places d)) [] []:=by
 refine epG Tryz.func187 bd187 (args:=[dotA d,.int .i64 places]) (G:=[]) (by kernel_rfl) (AllG.nil w S) ?_
 refine Zv [.wr 0 [] 0,zR 1] [] [0] (fun nu1=>[zP 2 (nu1 0),zB 4 false]) o0 (fun nu1=>[(nu1 0,.cells #[nI d.place,nI d.time,nI d.no] 177 (0,0))]) (fun nu1=>?_)
 refine Zs [zR 0,.rd 1 [.o 0 none] 0 0,zR 2,zR 3,.rd 4 [] 2 0,.rd 5 [.o 0 none] 2 0,.rd 6 [] 2 0,.rd 7 [] 2 0,.rd 8 [] 0 3,zR 9,.rd 10 [] 2 0,.rd 11 [.o 0 none] 2 0,.rd 12 [] 2 0,.rd 13 [] 0 3,zR 14,.rd 15 [] 2 0,.rd 16 [.o 0 none] 2 0,.rd 17 [] 2 0,.rd 18 [] 0 3,zR 19,.rd 20 [] 2 0,.rd 21 [.o 0 none] 2 0,.rd 22 [] 2 0,.rd 23 [] 0 3,zR 24,.rd 25 [] 2 0,.rd 26 [.o 0 none] 2 0,.rd 27 [] 2 0,.rd 28 [] 0 3,zR 29] [2,1] [zB 4 (decide (d.place≥0)&&decide (d.place<places)&&decide (d.time≥1)&&decide (d.time≤1099511627776)&&decide (d.no≥0)&&decide (d.no<12))] ?_
 refine Yr [[]] (.bool (decide (d.place≥0)&&decide (d.place<places)&&decide (d.time≥1)&&decide (d.time≤1099511627776)&&decide (d.no≥0)&&decide (d.no<12))) fun a w s=>?_
 exact s.ret (by simp) [] [] rfl rfl
set_option maxHeartbeats 4000000 in
theorem vShape {w:World} {S:Nat→Prop} {o:OpT} {a:Option Addr} {n c:Nat} (h:Rep w S (.slice a n c) (.sl 3 (o.dots.map eDot))):Calls Tryz.prog 184 #[opA o (.slice a n c)] w fun e w'=>Ret [] w S w' e (.bool (shapeOk o)) [] []:=by
 have e1:=h.slen
 rw[List.length_map]at e1
 subst e1
 refine epG Tryz.func184 bd184 (args:=[opA o (.slice a o.dots.length c)]) (G:=[]) (by kernel_rfl) (AllG.nil w S) ?_
 by_cases h1:o.kind=1
 ·refine J_seq ?_
  refine Zm [.wr 0 [] 0,zR 1] [] [0] (fun nu1=>[zP 1 (nu1 0),zB 2 false]) o0 (fun nu1=>[(nu1 0,.cells #[nI o.no,.string o.key,nI o.kind,.string o.text,nI o.n,.bool o.remove,.slice a o.dots.length c] 55 (0,0))]) (fun nu1=>?_)
  refine J_seq ?_
  refine Zs [zR 0,.rd 1 [.o 0 none] 0 0] [] [zI 4 o.kind] ?_
  refine J_block ?_
  refine Zt [.rd 0 [] 0 6,zR 1] [] [zB 5 true] (oC (show(o.kind==(1:Int))=true from by simp;omega) oN) ?_
  refine cTt ?_
  refine Zs [zR 0,.rd 1 [.o 0 none] 0 0,zR 2,zR 3,.rd 4 [] 2 0,.rd 5 [.o 0 none] 2 0,.rd 6 [] 2 0,.rd 7 [] 0 3,zR 8,.rd 9 [] 2 0,.rd 10 [.o 0 none] 2 0,.rd 11 [] 2 0,.rd 12 [] 2 0,.rd 13 [] 0 3,zR 14] [5,4] [zB 2 (o.n==0&&!o.remove&&(↑o.dots.length:Int)==0)] ?_
  refine Yr [[]] (.bool (o.n==0&&!o.remove&&(↑o.dots.length:Int)==0)) fun a w s=>?_
  rw[shapeOk,if_pos h1]
  exact s.ret (by simp) [] [] rfl rfl
 ·by_cases h2:o.kind=2
  ·refine J_seq ?_
   refine Zm [.wr 0 [] 0,zR 1] [] [0] (fun nu1=>[zP 1 (nu1 0),zB 2 false]) o0 (fun nu1=>[(nu1 0,.cells #[nI o.no,.string o.key,nI o.kind,.string o.text,nI o.n,.bool o.remove,.slice a o.dots.length c] 55 (0,0))]) (fun nu1=>?_)
   refine J_seq ?_
   refine Zs [zR 0,.rd 1 [.o 0 none] 0 0] [] [zI 4 o.kind] ?_
   refine J_block ?_
   refine Zt [.rd 0 [] 0 7,zR 1] [] [zB 5 false] (oC (show(o.kind==(1:Int))=false from by simp;omega) oN) ?_
   refine cF ?_
   refine Zt [.rd 0 [] 0 6,zR 1] [5,4] [zB 21 true] (oC (show(o.kind==(2:Int))=true from by simp;omega) oN) ?_
   refine cTt ?_
   refine Zs [zR 0,.rd 1 [.o 0 none] 0 0,zR 2,zR 3,.rd 4 [] 2 0,.rd 5 [.o 0 none] 2 0,.rd 6 [] 2 0,.rd 7 [] 0 3,zR 8,.rd 9 [] 2 0,.rd 10 [.o 0 none] 2 0,.rd 11 [] 2 0,.rd 12 [] 2 0,.rd 13 [] 0 3,zR 14] [21] [zB 2 (o.text.toList==(ByteArray.mk #[]).toList&&!o.remove&&(↑o.dots.length:Int)==0)] ?_
   refine Yr [[]] (.bool (o.text.toList==(ByteArray.mk #[]).toList&&!o.remove&&(↑o.dots.length:Int)==0)) fun a w s=>?_
   rw[shapeOk,if_neg h1,if_pos h2]
   exact s.ret (by simp) [] [] rfl rfl
  ·by_cases h3:o.n=0
   ·refine J_seq ?_
    refine Zm [.wr 0 [] 0,zR 1] [] [0] (fun nu1=>[zP 1 (nu1 0),zB 2 false]) o0 (fun nu1=>[(nu1 0,.cells #[nI o.no,.string o.key,nI o.kind,.string o.text,nI o.n,.bool o.remove,.slice a o.dots.length c] 55 (0,0))]) (fun nu1=>?_)
    refine J_seq ?_
    refine Zs [zR 0,.rd 1 [.o 0 none] 0 0] [] [zI 4 o.kind] ?_
    refine J_block ?_
    refine Zt [.rd 0 [] 0 7,zR 1] [] [zB 5 false] (oC (show(o.kind==(1:Int))=false from by simp;omega) oN) ?_
    refine cF ?_
    refine Zt [.rd 0 [] 0 7,zR 1] [5,4] [zB 21 false] (oC (show(o.kind==(2:Int))=false from by simp;omega) oN) ?_
    refine cF ?_
    refine J_skip (J_eb ?_)
    refine Zt [zR 0,.rd 1 [.o 0 none] 0 0,.rd 2 [] 0 6,zR 3,zR 4,.rd 5 [.o 0 none] 0 0,zR 6,.rd 7 [] 2 0,.rd 8 [.o 0 none] 2 0,.rd 9 [] 2 0,.rd 10 [] 2 0,.rd 11 [] 0 3,zR 12,zR 13] [21,1] [zB 2 (o.remove||(↑o.dots.length:Int)==0)] (oC (show(o.n==(0:Int))=true from by simp;omega) oN) ?_
    refine Yr [[]] (.bool (o.remove||(↑o.dots.length:Int)==0)) fun a w s=>?_
    rw[shapeOk,if_neg h1,if_neg h2,show(o.n==0)=true by simpa using h3,Bool.true_and]
    exact s.ret (by simp) [] [] rfl rfl
   ·refine J_seq ?_
    refine Zm [.wr 0 [] 0,zR 1] [] [0] (fun nu1=>[zP 1 (nu1 0),zB 2 false]) o0 (fun nu1=>[(nu1 0,.cells #[nI o.no,.string o.key,nI o.kind,.string o.text,nI o.n,.bool o.remove,.slice a o.dots.length c] 55 (0,0))]) (fun nu1=>?_)
    refine J_seq ?_
    refine Zs [zR 0,.rd 1 [.o 0 none] 0 0] [] [zI 4 o.kind] ?_
    refine J_block ?_
    refine Zt [.rd 0 [] 0 7,zR 1] [] [zB 5 false] (oC (show(o.kind==(1:Int))=false from by simp;omega) oN) ?_
    refine cF ?_
    refine Zt [.rd 0 [] 0 7,zR 1] [5,4] [zB 21 false] (oC (show(o.kind==(2:Int))=false from by simp;omega) oN) ?_
    refine cF ?_
    refine J_skip (J_eb ?_)
    refine Zt [zR 0,.rd 1 [.o 0 none] 0 0,.rd 2 [] 0 7,zR 3,.rd 4 [] 1 0,.rd 5 [] 1 0,.rd 6 [] 1 0,.rd 7 [] 1 0,.rd 8 [] 1 0,.rd 9 [] 1 0,.rd 10 [] 1 0,.rd 11 [] 1 0,zR 12,zR 13] [21,1] [] (oC (show(o.n==(0:Int))=false from by simp;omega) oN) ?_
    refine Yr [[]] (.bool false) fun a w s=>?_
    rw[shapeOk,if_neg h1,if_neg h2,show(o.n==0)=false by simpa using h3,Bool.false_and]
    exact s.ret (by simp) [] [] rfl rfl
theorem opRest {o:OpT} {places:Int} (h1:¬(places<1∨6<places∨o.no<0∨12≤o.no)) (h2:nameOk o.key=true) (h3:o.kind=1∨o.kind=2∨o.kind=3) (h4:shapeOk o=true):opErr o places=if 60<o.text.size∨o.n < -1099511627776∨1099511627776<o.n∨60<o.dots.length then 2 else if badDots places o.dots=true then 2 else 0:=by
 unfold opErr
 rw[if_neg h1,if_neg (by simp[h2]),if_neg (by omega),if_neg (by simp[h4])]
theorem opShape {o:OpT} {places:Int} (h1:¬(places<1∨6<places∨o.no<0∨12≤o.no)) (h2:nameOk o.key=true) (h3:o.kind=1∨o.kind=2∨o.kind=3) (h4:shapeOk o=false):opErr o places=3:=by
 unfold opErr
 rw[if_neg h1,if_neg (by simp[h2]),if_neg (by omega),if_pos h4]
theorem not_f {x:Bool} (h:(!x)=false):x=true:=by cases x <;> simp_all
end Go.Proofs.YtmkapocibaojdaaGreatDoor
namespace Go.Proofs.YtmkapocibaojdaaGreatDoor
open Go Go.Sx
set_option maxHeartbeats 4000000 in
theorem obj_ptr {w:World} {S:Nat→Prop} {b:Nat} {x:Value} {ty:TypeId} {fz:Nat×Nat} (h:Rep w S (.pointer (some ⟨b,0,none⟩)) (.obj (.cells #[x] ty fz))) (hx:x.oneCell'=true):Rep w S (.pointer (some ⟨b,0,none⟩)) (.ptr [.v x]):=by
 cases h with
 | obj hb hS=>
  refine .ptr (fun _=>x) hb hS (fun j hj=>?_) (fun j d hj=>?_)
  ·obtain rfl:j=0:=by simpa using hj
   rfl
  ·match j,hj with
   | 0,hj=>
    simp only[List.getElem?_cons_zero,Option.some.injEq]at hj
    subst hj
    exact .v hx
   | j+1,hj=>simp at hj
set_option maxHeartbeats 4000000 in
theorem check68 {w:World} {S:Nat→Prop} {d:DotT} {places:Int} {b:Nat} (h:Rep w S (.pointer (some ⟨b,0,none⟩)) (.ptr [.v (.int .i64 places)])):Calls Tryz.prog 186 #[dotA d,.pointer (some ⟨b,0,none⟩)] w fun e w'=>Ret [] w S w' e (.bool (!dotOk places d)) [] []:=by
 refine epG Tryz.func186 bd186 (args:=[dotA d,.pointer (some ⟨b,0,none⟩)]) (G:=[(_,.ptr [.v (.int .i64 places)])]) (by kernel_rfl) (.cons h (.nil _ _)) ?_
 refine J_glob 0 rfl (fun csg1 tyg1 fzg1 hglob1=>?_)
 refine Zv [.wr 0 [] 0,zR 1] [] [0] (fun nu1=>[zP 2 (nu1 0),zB 3 false]) o0 (fun nu1=>[(nu1 0,.cells #[nI d.place,nI d.time,nI d.no] 177 (0,0))]) (fun nu1=>?_)
 refine jS [(0,true),(1,true),(2,false),(3,true),(4,true)] [] ?_
 refine Yp [.rd 0 (hnO 0 3) 0 0,.rd 1 [.r 0 (some (nI places))] 0 0] [2,1] [zV 4 (.agg #[nI d.place,nI d.time,nI d.no]),zI 5 places] (oC hglob1 oN) ?_
 refine Yc 187 #[.agg #[nI d.place,nI d.time,nI d.no],nI places] (some 6) fun w S hG=>?_
 refine(vDot (w:=w) (S:=S)).mono ?_
 rintro e1 w1 hR
 refine⟨_,_,_,hR,?_⟩
 try simp only[aQ]
 refine Ya [zR 3,zR 4] [6,4,5] [zB 3 (!dotOk places d)] ?_
 refine JR_end ?_
 refine Yr [[]] (.bool (!dotOk places d)) fun a w s=>?_
 exact s.ret (by simp) [] [] rfl rfl
set_option maxHeartbeats 4000000 in
theorem indexBadD {w:World} {S:Nat→Prop} {a:Option Addr} {n c:Nat} {l:List DotT} {places:Int} {b:Nat} (h:Rep w S (.slice a n c) (.sl 3 (l.map eDot))) (hl:l.length≤1000000) (hp:Rep w S (.pointer (some ⟨b,0,none⟩)) (.ptr [.v (.int .i64 places)])) :
  Calls Tryz.prog 215 #[.slice a n c,.func (.func 186) #[] #[.pointer (some ⟨b,0,none⟩)]] w fun e w'=>∃r,Ret [] w S w' e (.int .i64 r) [] []∧decide (0≤r)=badDots places l:=by
 have e1:=h.slen
 rw[List.length_map]at e1
 subst e1
 refine epG Tryz.func215 bd215 (args:=[.slice a l.length c,.func (.func 186) #[] #[.pointer (some ⟨b,0,none⟩)]]) (G:=[(_,.sl 3 (l.map eDot)),(_,.ptr [.v (.int .i64 places)])]) (by kernel_rfl) (.cons h (.cons hp (.nil _ _))) ?_
 refine Zs [zR 0] [] [zI 4 0] ?_
 refine J_seq ?_
 refine Zs (Rds 0 3) [] [zI 7 (↑l.length:Int),zI 8 0] ?_
 refine J_block ?_
 refine J_loopx (fun i:Int=>[zS 0 a l.length c,zV 1 (.func (.func 186) #[] #[.pointer (sA b 0)]),zI 4 0,zI 7 (↑l.length:Int),zI 8 i]) (fun i:Int=>[]) (fun i:Int=>[]) (fun i:Int=>[(.slice a l.length c,(D.sl 3 (List.map eDot l))),(.pointer (sA b 0),(D.ptr [D.v (nI places)]))]) (fun i:Int=>(l.length - i).toNat) (fun i:Int=>(0≤i∧i≤l.length∧∀j:Nat,j<i.toNat→∀d,l[j]?=some d→dotOk places d=true)) 0 [0,1,4,7,8] [] [] [0,1] ?_ (by kernel_rfl) rfl rfl rfl ?_
 ·exact⟨by simp,by omega,by simp⟩
 rintro i ⟨hi0,hi,hno⟩
 refine Zs [zR 0] [] [zB 9 (decide (i<(↑l.length:Int)))] ?_
 refine J_seq ?_
 refine cC (t:=decide (i<(↑l.length:Int))) (fun hlt=>?_) (fun hlt=>?_)
 ·have hlt2:i<l.length:=by simpa using hlt
  obtain⟨x,hx⟩:∃x,l[i.toNat]?=some x:=⟨_,List.getElem?_eq_getElem (by omega)⟩
  refine J_read0 0 rfl i.toNat (map_at hx) (by kernel_rfl) (fun b1 off1 cs1 ty1 fz1 ha1 hrd1=>?_)
  cases ha1
  have hrd1_0:=rd0 (hrd1 0 _ rfl)
  have hrd1_1:=hrd1 1 _ rfl
  have hrd1_2:=hrd1 2 _ rfl
  try simp only[aQ]
  refine J_skip (J_seq (J_block ?_))
  refine Zs [zR 0,zR 1] [9] [zI 5 i] ?_
  refine jS [(0,true),(1,true),(2,true),(3,true),(4,true),(5,false)] [] ?_
  refine Yp (Rds 0 3++[.rd 3 [] 0 2,.rd 4 [.r 0 (some (nI x.place)),.r 0 (some (nI x.time)),.r 0 (some (nI x.no))] 0 0]) [] [zV 11 (.func (.func 186) #[] #[.pointer (sA b 0)]),zV 15 (.agg #[nI x.place,nI x.time,nI x.no])] (oC hi0 (oC hlt2 (oC hrd1_0 (oC hrd1_1 (oC hrd1_2 oN))))) ?_
  refine Yc 186 #[.agg #[nI x.place,nI x.time,nI x.no],.pointer (sA b 0)] (some 16) fun w S hG=>?_
  refine(check68 (d:=x) (hG.at 1 rfl)).mono ?_
  rintro e w2 hR
  refine⟨_,_,_,hR,?_⟩
  try simp only[aQ]
  refine JR_end ?_
  refine cC (t:=!dotOk places x) (fun hb=>?_) (fun hb=>?_)
  ·refine J_seq ?_
   refine Za [zR 0,zR 1] [16] [zI 4 i] ?_
   refine Yr [[]] (nI i) fun a w s=>?_
   refine⟨_,s.ret (by simp) [] [] rfl rfl,?_⟩
   rw[show badDots places l=true from List.any_eq_true.2 ⟨x,List.mem_of_getElem? hx,hb⟩]
   simpa using hi0
  ·refine J_skip ?_
   refine J_eb ?_
   refine Zp [.rd 0 [] 0 1,zR 1] [16] [zI 8 (i+1)] (oC (show IntKind.i64.wrap (i+1)=i+1 from wrap_i64 (by omega) (by omega)) oN) ?_
   refine J_backx (i+1) [0,1,4,7,8] [] [] [0,1] ?_ ?_ (by kernel_rfl) rfl rfl rfl
   ·refine⟨by omega,by omega,fun j hj t ht=>?_⟩
    by_cases hji:j=i.toNat
    ·subst hji
     rw[hx]at ht
     cases ht
     exact not_f hb
    ·exact hno j (by omega) t ht
   ·omega
 ·refine J_exit rfl ?_
  refine Zs [zR 0] [9,0,1,7,8] [zI 4 (-1)] ?_
  refine Yr [[]] (nI (-1)) fun a w s=>?_
  refine⟨_,s.ret (by simp) [] [] rfl rfl,?_⟩
  have e:badDots places l=false:=by
   unfold badDots
   rw[List.any_eq_false]
   intro t ht
   obtain⟨j,hj⟩:=List.getElem?_of_mem ht
   have hjl:=(List.getElem?_eq_some_iff.1 hj).1
   simp[hno j (by simp at hlt;omega) t hj]
  rw[e]
  decide
set_option maxHeartbeats 4000000 in
theorem containsBadD {w:World} {S:Nat→Prop} {a:Option Addr} {n c:Nat} {l:List DotT} {places:Int} {b:Nat} (h:Rep w S (.slice a n c) (.sl 3 (l.map eDot))) (hl:l.length≤1000000) (hp:Rep w S (.pointer (some ⟨b,0,none⟩)) (.ptr [.v (.int .i64 places)])) :
  Calls Tryz.prog 185 #[.slice a n c,.func (.func 186) #[] #[.pointer (some ⟨b,0,none⟩)]] w fun e w'=>Ret [] w S w' e (.bool (badDots places l)) [] []:=by
 refine epG Tryz.func185 bd185 (args:=[.slice a n c,.func (.func 186) #[] #[.pointer (some ⟨b,0,none⟩)]]) (G:=[(_,.sl 3 (l.map eDot)),(_,.ptr [.v (.int .i64 places)])]) (by kernel_rfl) (.cons h (.cons hp (.nil _ _))) ?_
 refine Zs [zR 0] [] [zB 4 false] ?_
 refine jS [(0,true),(1,true),(2,false),(3,true),(4,true)] [] ?_
 refine Ya [zR 0,zR 1] [0,1] [zS 5 a n c,zV 6 (.func (.func 186) #[] #[.pointer (sA b 0)])] ?_
 refine Yc 215 #[.slice a n c,.func (.func 186) #[] #[.pointer (sA b 0)]] (some 7) fun w S hG=>?_
 refine(indexBadD (hG.at 0 rfl) hl (hG.at 1 rfl)).mono ?_
 rintro e w2 ⟨r,hR,hr⟩
 refine⟨_,_,_,hR,?_⟩
 try simp only[aQ]
 refine Ya [zR 3,zR 4] [7,5,6] [zB 4 (decide (r≥0))] ?_
 refine JR_end ?_
 refine Yr [[]] (.bool (decide (r≥0))) fun a w s=>?_
 rw[←hr]
 exact s.ret (by simp) [] [] rfl rfl
set_option maxHeartbeats 4000000 in
theorem vCheckOp {w:World} {S:Nat→Prop} {er:Nat→Addr} {eb:Nat→Array Value×TypeId} {o:OpT} {a:Option Addr} {n c:Nat} {places:Int} (hC:Rep w S .nilIface (dC er eb)) (h:Rep w S (.slice a n c) (.sl 3 (o.dots.map eDot))) :
  Calls Tryz.prog 144 #[opA o (.slice a n c),.int .i64 places] w fun e w'=>∃v,Ret [] w S w' e v [] []∧ErrIs 390 er (opErr o places) v:=by
 have e1:=h.slen
 rw[List.length_map]at e1
 subst e1
 refine epG Tryz.func144 bd144 (args:=[opA o (.slice a o.dots.length c),.int .i64 places]) (G:=[(_,dC er eb),(_,.sl 3 (o.dots.map eDot))]) (by kernel_rfl) (.cons hC (.cons h (.nil _ _))) ?_
 refine J_stp (stp_all 0 [1,2,3,11] rfl rfl) ?_
 refine J_glob 2 rfl (fun csg1 tyg1 fzg1 hglob1=>?_)
 refine J_glob 3 rfl (fun csg2 tyg2 fzg2 hglob2=>?_)
 refine J_glob 4 rfl (fun csg3 tyg3 fzg3 hglob3=>?_)
 refine J_glob 5 rfl (fun csg4 tyg4 fzg4 hglob4=>?_)
 try simp only[aQ]
 refine Zv [.wr 0 [] 0,.wr 1 [] 0,zR 2] [] [0,1] (fun nu1=>[zP 2 (nu1 0),zP 3 (nu1 1),zV 4 .nilIface]) o0 (fun nu1=>[(nu1 0,.cells #[nI o.no,.string o.key,nI o.kind,.string o.text,nI o.n,.bool o.remove,.slice a o.dots.length c] 55 (0,0)),(nu1 1,.cells #[nI places] 3 (0,0))]) (fun nu1=>?_)
 refine J_seq (J_block ?_)
 refine Zs [.rd 0 [.o 1 none] 0 0,zR 1,zR 2,.rd 3 [.o 1 none] 2 0,.rd 4 [] 2 0,.rd 5 [] 0 3,zR 6,.rd 7 [] 2 0,.rd 8 [.o 0 none] 2 0,.rd 9 [] 2 0,.rd 10 [] 0 3,zR 11,.rd 12 [] 2 0,.rd 13 [.o 0 none] 2 0,.rd 14 [] 2 0,.rd 15 [] 0 3,zR 16] [] [zB 5 (decide (places<1)||decide (places>6)||decide (o.no<0)||decide (o.no≥12))] ?_
 refine cC (t:=decide (places<1)||decide (places>6)||decide (o.no<0)||decide (o.no≥12)) (fun hb=>?_) (fun hb=>?_)
 ·have e:opErr o places=2:=by rw[opErr,if_pos (by simp at hb;omega)]
  refine Zt [.rd 0 [.r 0 (some (.iface 390 (.pointer (some (er 2)))))] 0 0,zR 1] [5,2,3] [zV 4 (.iface 390 (.pointer (some (er 2))))] (oC hglob1 oN) ?_
  refine Yr [[]] (.iface 390 (.pointer (some (er 2)))) fun a w s=>?_
  rw[e]
  exact⟨_,s.ret (by simp) [] [] rfl rfl,.inr ⟨by decide,rfl⟩⟩
 have hb2:¬(places<1∨6<places∨o.no<0∨12≤o.no):=by simp at hb;omega
 refine jS [(0,true),(1,true),(2,false),(3,true),(4,true)] [] ?_
 refine Ya [zR 0,.rd 1 [.o 0 none] 0 0] [5] [zV 25 (.string o.key)] ?_
 refine Yc 154 #[.string o.key] (some 26) fun w S hG=>?_
 refine(vName (w:=w) (S:=S) (s0:=o.key)).mono ?_
 rintro e1 w1 hR
 refine⟨_,_,_,hR,?_⟩
 cases hname:nameOk o.key with
 | false=>
  have e:opErr o places=4:=by rw[opErr,if_neg hb2,if_pos hname]
  try simp only[aQ]
  refine Ya [zR 3,zR 4] [26,25] [zB 23 true] ?_
  refine JR_end ?_
  refine cTt ?_
  refine Zt [.rd 0 [.r 2 (some (.iface 390 (.pointer (some (er 4)))))] 0 0,zR 1] [23,2,3] [zV 4 (.iface 390 (.pointer (some (er 4))))] (oC hglob3 oN) ?_
  refine Yr [[]] (.iface 390 (.pointer (some (er 4)))) fun a w s=>?_
  rw[e]
  exact⟨_,s.ret (by simp) [] [] rfl rfl,.inr ⟨by decide,rfl⟩⟩
 | true=>
  try simp only[aQ]
  refine Ya [zR 3,zR 4] [26,25] [zB 23 false] ?_
  refine JR_end ?_
  refine cF ?_
  refine Zs [zR 0,.rd 1 [.o 0 none] 0 0,zR 2,zR 3,.rd 4 [] 2 0,.rd 5 [.o 0 none] 2 0,.rd 6 [] 2 0,.rd 7 [] 0 3,zR 8,.rd 9 [] 2 0,.rd 10 [.o 0 none] 2 0,.rd 11 [] 2 0,.rd 12 [] 0 3,zR 13] [23] [zB 29 (o.kind != 1&&o.kind != 2&&o.kind != 3)] ?_
  refine cC (t:=o.kind != 1&&o.kind != 2&&o.kind != 3) (fun hk=>?_) (fun hk=>?_)
  ·have e:opErr o places=12:=by rw[opErr,if_neg hb2,if_neg (by simp[hname]),if_pos (by simp at hk;omega)]
   refine Zt [.rd 0 [.r 3 (some (.iface 390 (.pointer (some (er 12)))))] 0 0,zR 1] [29,2,3] [zV 4 (.iface 390 (.pointer (some (er 12))))] (oC hglob4 oN) ?_
   refine Yr [[]] (.iface 390 (.pointer (some (er 12)))) fun a w s=>?_
   rw[e]
   exact⟨_,s.ret (by simp) [] [] rfl rfl,.inr ⟨by decide,rfl⟩⟩
  have hk2:o.kind=1∨o.kind=2∨o.kind=3:=by simp at hk;omega
  refine jS [(0,true),(1,false),(2,true),(3,true)] [] ?_
  refine Ya [.rd 0 (hnO 0 7) 0 0] [29] [zV 45 (.agg #[nI o.no,.string o.key,nI o.kind,.string o.text,nI o.n,.bool o.remove,.slice a o.dots.length c])] ?_
  refine Yc 184 #[.agg #[nI o.no,.string o.key,nI o.kind,.string o.text,nI o.n,.bool o.remove,.slice a o.dots.length c]] (some 46) fun w S hG=>?_
  refine(vShape (o:=o) (hG.at 1 rfl)).mono ?_
  rintro e1 w1 hR
  refine⟨_,_,_,hR,?_⟩
  cases hsh:shapeOk o with
  | false=>
   rw[opShape hb2 hname hk2 hsh]
   try simp only[aQ]
   refine Ya [zR 2,zR 3] [46,45] [zB 44 true] ?_
   refine JR_end ?_
   refine cTt ?_
   refine Zt [.rd 0 [.r 1 (some (.iface 390 (.pointer (some (er 3)))))] 0 0,zR 1] [44,2,3] [zV 4 (.iface 390 (.pointer (some (er 3))))] (oC hglob2 oN) ?_
   refine Yr [[]] (.iface 390 (.pointer (some (er 3)))) fun a w s=>?_
   exact⟨_,s.ret (by simp) [] [] rfl rfl,.inr ⟨by decide,rfl⟩⟩
  | true=>
   rw[opRest hb2 hname hk2 hsh]
   try simp only[aQ]
   refine Ya [zR 2,zR 3] [46,45] [zB 44 false] ?_
   refine JR_end ?_
   refine cF ?_
   refine Zs ([zR 0,.rd 1 [.o 0 none] 0 0]++Rds 2 5++[.rd 5 [] 2 0,.rd 6 [.o 0 none] 2 0,.rd 7 [] 2 0,.rd 8 [] 0 3,zR 9,.rd 10 [] 2 0,.rd 11 [.o 0 none] 2 0,.rd 12 [] 2 0,.rd 13 [] 0 3,zR 14,.rd 15 [] 2 0,.rd 16 [.o 0 none] 2 0,.rd 17 [] 2 0,.rd 18 [] 2 0,.rd 19 [] 0 3,zR 20]) [44] [zB 49 (decide ((↑o.text.size:Int)>60)||decide (o.n < -1099511627776)||decide (o.n>1099511627776)||decide ((↑o.dots.length:Int)>60))] ?_
   refine cC (t:=decide ((↑o.text.size:Int)>60)||decide (o.n < -1099511627776)||decide (o.n>1099511627776)||decide ((↑o.dots.length:Int)>60)) (fun hbig=>?_) (fun hbig=>?_)
   ·rw[if_pos (by simp at hbig;omega)]
    refine Zt [.rd 0 [.r 0 (some (.iface 390 (.pointer (some (er 2)))))] 0 0,zR 1] [49,2,3] [zV 4 (.iface 390 (.pointer (some (er 2))))] (oC hglob1 oN) ?_
    refine Yr [[]] (.iface 390 (.pointer (some (er 2)))) fun a w s=>?_
    exact⟨_,s.ret (by simp) [] [] rfl rfl,.inr ⟨by decide,rfl⟩⟩
   rw[if_neg (by simp at hbig;omega)]
   have hdl:o.dots.length≤1000000:=by simp at hbig;omega
   refine J_seq ?_
   refine J_share 1 rfl ?_
   refine J_stp (stp_fact (v:=.pointer (some ⟨nu1 1,0,none⟩)) (d:=.ptr [.v (.int .i64 places)]) fun w S H=>obj_ptr (H _ (List.mem_of_getElem? (i:=6) rfl)) rfl) ?_
   try simp only[aQ]
   refine jT [(0,true),(1,true),(2,true),(3,false),(4,true)] [] ?_
   refine Ya [zR 0,.rd 1 [.o 0 none] 0 0,zR 2] [49,2,3] [zS 73 a o.dots.length c,zV 74 (.func (.func 186) #[] #[.pointer (sA (nu1 1) 0)])] ?_
   refine Yc 185 #[.slice a o.dots.length c,.func (.func 186) #[] #[.pointer (sA (nu1 1) 0)]] (some 75) fun w S hG=>?_
   refine(containsBadD (hG.at 1 rfl) hdl (hG.at 7 rfl)).mono ?_
   rintro e1 w1 hR
   refine⟨_,_,_,hR,?_⟩
   cases hbd:badDots places o.dots with
   | true=>
    try simp only[aQ]
    refine Ya [zR 4] [75,73,74] [zB 71 true] ?_
    refine JR_end ?_
    refine cTt ?_
    refine Zt [.rd 0 [.r 0 (some (.iface 390 (.pointer (some (er 2)))))] 0 0,zR 1] [71] [zV 4 (.iface 390 (.pointer (some (er 2))))] (oC hglob1 oN) ?_
    refine Yr [[]] (.iface 390 (.pointer (some (er 2)))) fun a w s=>?_
    exact⟨_,s.ret (by simp) [] [] rfl rfl,.inr ⟨by decide,rfl⟩⟩
   | false=>
    try simp only[aQ]
    refine Ya [zR 4] [75,73,74] [zB 71 false] ?_
    refine JR_end ?_
    refine cF ?_
    refine J_skip (J_eb ?_)
    refine Zs [zR 0] [71] [] ?_
    refine Yr [[]] (.nilIface) fun a w s=>?_
    exact⟨_,s.ret (by simp) [] [] rfl rfl,.inl ⟨rfl,rfl⟩⟩
end Go.Proofs.YtmkapocibaojdaaGreatDoor
end
section
namespace Go.Proofs.YtmkapocibaojdaaGreatDoor
open Go Go.Sx
set_option maxHeartbeats 4000000 in
theorem setCell_at {w:World} {b:Nat} {old x:Value} {ty:TypeId} {fz:Nat×Nat} (h:w.heap[b]?=some (.cells #[old] ty fz)):(w.setCell ⟨b,0,none⟩ x).heap[b]?=some (.cells #[x] ty fz):=by
 simp[World.setCell,Array.getElem?_modify,h,Array.setIfInBounds]
set_option maxHeartbeats 4000000 in
theorem alloc_old {w:World} {o o':Obj} {b:Nat} (h:w.heap[b]?=some o):(w.alloc o').heap[b]?=some o:=by
 rw[RowKit.Below.heap_alloc _ _ _ (Array.getElem?_eq_some_iff.1 h).1]
 exact h
set_option maxHeartbeats 4000000 in
theorem asHit {w:World} {S:Nat→Prop} {M:List Nat} {p:Addr} {t:Nat} {old:Value} {ty:TypeId} {er:Nat→Addr} {eb:Nat→Array Value×TypeId} (hC:Rep w S .nilIface (dC er eb)) (hp:Pre w S M [cObj t (.cells #[old] ty (0,0))]) :
  Calls Tryz.prog 123 #[.iface 202 (.pointer (some p)),.iface 229 (.pointer (some ⟨t,0,none⟩))] w fun e w'=>Ret M w S w' e (.bool true) [cObj t (.cells #[.pointer (some p)] ty (0,0))] []:=by
 obtain⟨fps,hch,rfl,hnd,hM⟩:=hp
 match fps,hch with
 | [fp],⟨⟨hfp,hb⟩,_⟩=>
  subst hfp
  have hl:=(Array.getElem?_eq_some_iff.1 hb).1
  refine(Er.as_hit p ⟨t,0,none⟩ old w (var_of (hC.part _ (List.mem_of_getElem? (i:=12) rfl))) (by simp[World.cell?,hb]) (by simp[World.frozen?,hb])).mono ?_
  rintro e w' ⟨he,rfl⟩
  have hbl:=(((RowKit.Below.refl _ w).alloc (Nat.le_refl _) (.cells #[.pointer (some ⟨t,0,none⟩)] 229)).alloc (by simp) (.cells #[.pointer (some ⟨13,229,none⟩),.pointer (some ⟨w.heap.size,0,none⟩),.int .u64 150] 285)).alloc (by simp;omega) (.cells #[.pointer (some ⟨13,229,none⟩),.pointer (some ⟨w.heap.size,0,none⟩),.int .u64 150] 285) |>.alloc (by simp;omega) (.cells #[.pointer (some p)] 202)
  refine⟨he,⟨hbl.os,hbl.tape,hbl.output,by simpa [World.setCell]using hbl.size,fun b hbs hn=>?_,Nat.le_refl _⟩,[[t]],⟨⟨rfl,?_⟩,trivial⟩,by simp,fun b hb'=>?_,by simp⟩
  ·rw[RowKit.Below.heap_setCell _ _ _ _ (by simpa using hn)]
   exact hbl.block b hbs
  ·exact setCell_at (alloc_old (alloc_old (alloc_old (alloc_old hb))))
  ·obtain rfl:b=t:=by simpa using hb'
   refine⟨.inl (by simp),?_⟩
   simp[World.setCell]
   omega
 | [],h=>exact h.elim
 | _::_::_,h=>exact h.2.elim
set_option maxHeartbeats 4000000 in
theorem ptr_of_obj {w:World} {S:Nat→Prop} {b:Nat} {x y:Value} {ty:TypeId} {fz:Nat×Nat} (hx:x.oneCell'=true) (hy:y.oneCell'=true) (h:Rep w S (.pointer (some ⟨b,0,none⟩)) (.obj (.cells #[x,y] ty fz))):Rep w S (.pointer (some ⟨b,0,none⟩)) (.ptr [.v x,.v y]):=by
 cases h with
 | obj hb hS=>
  refine .ptr (fun j=>(#[x,y]:Array Value).getD j .nilIface) hb hS (fun j hj=>?_) fun j d hj=>?_
  ·match j,hj with
   | 0,_=>rfl
   | 1,_=>rfl
   | j+2,hj=>exact absurd hj (by simp)
  ·match j,hj with
   | 0,hj=>cases hj;exact .v hx
   | 1,hj=>cases hj;exact .v hy
   | j+2,hj=>simp at hj
end Go.Proofs.YtmkapocibaojdaaGreatDoor
end
section
namespace Go.Proofs.YtmkapocibaojdaaGreatDoor
open Go Go.Sx
def opErrAt (l:List OpT) (places:Int) (i:Nat):Nat:=
 match l[i]? with
 | none=>0
 | some o=>if opErr o places≠0 then opErr o places else match i,l[i - 1]? with
   | _+1,some p=>if o.no≤p.no then 3 else 0
   | _,_=>0
structure FT where
 code:Nat
 at':Int
def opsFault (l:List OpT) (places:Int):Nat→Nat→FT
 | 0,_=>⟨0,-1⟩
 | n+1,i=>if opErrAt l places i=0 then opsFault l places n (i+1)else ⟨opErrAt l places i,i⟩
def comFault (c:ComT):FT:=
 if vecErr c.when≠0 then ⟨vecErr c.when,-1⟩
 else if c.place<0∨c.when.length≤c.place∨12<c.ops.length then ⟨2,-1⟩
 else if c.when[c.place.toNat]?=some 0 then ⟨2,-1⟩
 else if c.ops.length=0 then ⟨3,-1⟩
 else opsFault c.ops c.when.length c.ops.length 0
theorem opsFault_from {l:List OpT} {places:Int}:∀(n k i:Nat),k≤i→(∀j,k≤j→j<i→opErrAt l places j=0)→(i=k+n→opsFault l places n k=⟨0,-1⟩)∧(i<k+n→opErrAt l places i≠0→opsFault l places n k=⟨opErrAt l places i,i⟩)
 | 0,k,i,hk,_=>⟨fun _=>rfl,fun h=>by omega⟩
 | n+1,k,i,hk,h=>by
  rcases Nat.eq_or_lt_of_le hk with rfl|hlt
  ·refine⟨fun he=>by omega,fun _ hne=>?_⟩
   rw[opsFault,if_neg hne]
  ·obtain⟨h1,h2⟩:=opsFault_from n (k+1) i hlt fun j hj1 hj2=>h j (by omega) hj2
   rw[opsFault,if_pos (h k (Nat.le_refl _) hlt)]
   exact⟨fun he=>h1 (by omega),fun he=>h2 (by omega)⟩
theorem opErrAt_own {l:List OpT} {p:Int} {i:Nat} {o:OpT} (h:l[i]?=some o) (he:opErr o p≠0):opErrAt l p i=opErr o p:=by
 unfold opErrAt
 simp only[h,if_pos he]
theorem opErrAt_first {l:List OpT} {p:Int} {o:OpT} (h:l[0]?=some o) (he:opErr o p=0):opErrAt l p 0=0:=by
 unfold opErrAt
 simp[h,he]
theorem opErrAt_next {l:List OpT} {p:Int} {i:Nat} {o q:OpT} (h:l[i+1]?=some o) (hq:l[i]?=some q) (he:opErr o p=0):opErrAt l p (i+1)=if o.no≤q.no then 3 else 0:=by
 unfold opErrAt
 simp[h,hq,he]
end Go.Proofs.YtmkapocibaojdaaGreatDoor
namespace Go.Proofs.YtmkapocibaojdaaGreatDoor
open Go Go.Sx
def FRet (w:World) (S:Nat→Prop) (w':World) (e:Ending) (er:Nat→Addr) (f:FT):Prop:=
 (f.at' = -1∧∃v,Ret [] w S w' e v [] []∧ErrIs 390 er f.code v) ∨
 (1≤f.code∧0≤f.at'∧∃pb,Ret [] w S w' e (.iface 202 (.pointer (some ⟨pb,0,none⟩))) [] [(.pointer (some ⟨pb,0,none⟩),.ptr [.v (.int .i64 f.at'),.v (.iface 390 (.pointer (some (er f.code))))])])
set_option maxHeartbeats 2000000 in
theorem checkCommit {w:World} {S:Nat→Prop} {er:Nat→Addr} {eb:Nat→Array Value×TypeId} {a1 a2:Option Addr} {n1 c1 n2 c2:Nat} {c:ComT} (hC:Rep w S .nilIface (dC er eb)) (h1:Rep w S (.slice a1 n1 c1) (dInts c.when)) (h2:Rep w S (.slice a2 n2 c2) (.sl 7 (c.ops.map eOp))) (hl1:c.when.length≤1000000) (hl2:c.ops.length≤1000000) :
  Calls Tryz.prog 85 #[.agg #[.slice a1 n1 c1,.int .i64 c.place,.slice a2 n2 c2]] w fun e w'=>FRet w S w' e er (comFault c):=by
 obtain rfl:=rep_ints_len h1
 have e2:=h2.slen
 rw[List.length_map]at e2
 subst e2
 refine epG Tryz.func85 bd85 (args:=[.agg #[.slice a1 c.when.length c1,.int .i64 c.place,.slice a2 c.ops.length c2]]) (G:=[(_,dC er eb),(_,dInts c.when),(_,.sl 7 (c.ops.map eOp))]) (by kernel_rfl) (.cons hC (.cons h1 (.cons h2 (.nil _ _)))) ?_
 refine J_stp (stp_all 0 [1,2] rfl rfl) ?_
 refine J_glob 3 rfl (fun csg1 tyg1 fzg1 hglob1=>?_)
 refine J_glob 4 rfl (fun csg2 tyg2 fzg2 hglob2=>?_)
 try simp only[aQ]
 refine Zv [.wr 0 [] 0,zR 1] [] [0] (fun nu1=>[zP 1 (nu1 0),zV 2 .nilIface]) o0 (fun nu1=>[(nu1 0,.cells #[.slice a1 c.when.length c1,nI c.place,.slice a2 c.ops.length c2] 35 (0,0))]) (fun nu1=>?_)
 refine J_seq ?_
 refine jS [(0,true),(1,true),(2,false),(3,true)] [] ?_
 refine Ya [zR 0,.rd 1 [.o 0 none] 0 0] [] [zS 8 a1 c.when.length c1] ?_
 refine Yc 141 #[.slice a1 c.when.length c1] (some 9) fun w S hG=>?_
 refine(vcheck (globs_of (hG.at 0 rfl)) (hG.at 1 rfl) hl1).mono ?_
 rintro e1 w1 ⟨v,hR,hv⟩
 refine⟨_,_,_,hR,?_⟩
 obtain⟨hv0,rfl⟩|⟨hv0,rfl⟩:=hv
 ·try simp only[aQ]
  refine Ya [zR 3] [9,8] [zV 3 .nilIface] ?_
  refine JR_end ?_
  refine Zs [zR 0,zR 1] [] [zB 11 false] ?_
  refine cF ?_
  refine J_skip (J_seq (J_seq ?_))
  by_cases hb:c.place<0∨c.when.length≤c.place
  ·have e:comFault c=⟨2,-1⟩:=by rw[comFault,if_neg (by simp[hv0]),if_pos (by omega)]
   rcases(by omega:c.place<0∨(0≤c.place∧c.when.length≤c.place))with hb1|⟨hb1,hb2⟩
   ·refine Zp [.rd 0 [] 0 0,.rd 1 [.o 0 none] 0 0,.rd 2 [] 0 6,.rd 3 [] 0 0,.rd 4 [] 1 0,.rd 5 [] 1 0,.rd 6 [] 1 0,.rd 7 [] 1 0,.rd 8 [] 1 0,.rd 9 [] 1 0,.rd 10 [] 0 0,.rd 11 [] 0 0,.rd 12 [] 1 0,.rd 13 [] 1 0,.rd 14 [] 1 0,.rd 15 [] 1 0,.rd 16 [] 1 0,.rd 17 [] 1 0,.rd 18 [] 1 0,.rd 19 [] 0 0,.rd 20 [] 0 0,.rd 21 [] 1 0,.rd 22 [] 1 0,.rd 23 [] 1 0,.rd 24 [] 1 0,.rd 25 [] 0 0] [11,3] [(38,.val (.bool true))] (oC (show decide (c.place<(0:Int))=true from by simp;omega) oN) ?_
    refine cTt ?_
    refine Zt [.rd 0 [.r 0 (some (.iface 390 (.pointer (some (er 2)))))] 0 0,zR 1] [38] [zV 2 (.iface 390 (.pointer (some (er 2))))] (oC hglob1 oN) ?_
    refine Yr [[]] (.iface 390 (.pointer (some (er 2)))) fun a w s=>?_
    rw[e]
    exact .inl ⟨rfl,_,s.ret (by simp) [] [] rfl rfl,.inr ⟨by decide,rfl⟩⟩
   ·refine Zp [.rd 0 [] 0 0,.rd 1 [.o 0 none] 0 0,.rd 2 [] 0 7,.rd 3 [] 0 0,.rd 4 [] 0 0,.rd 5 [.o 0 none] 0 0,.rd 6 [] 0 0,.rd 7 [.o 0 none] 0 0,.rd 8 [] 0 0,.rd 9 [] 0 6,.rd 10 [] 0 0,.rd 11 [] 0 0,.rd 12 [] 1 0,.rd 13 [] 1 0,.rd 14 [] 1 0,.rd 15 [] 1 0,.rd 16 [] 1 0,.rd 17 [] 1 0,.rd 18 [] 1 0,.rd 19 [] 0 0,.rd 20 [] 0 0,.rd 21 [] 1 0,.rd 22 [] 1 0,.rd 23 [] 1 0,.rd 24 [] 1 0,.rd 25 [] 0 0] [11,3] [(38,.val (.bool true))] (oC (show decide (c.place<(0:Int))=false from by simp;omega) (oC (show decide (c.place≥(↑c.when.length:Int))=true from by simp;omega) oN)) ?_
    refine cTt ?_
    refine Zt [.rd 0 [.r 0 (some (.iface 390 (.pointer (some (er 2)))))] 0 0,zR 1] [38] [zV 2 (.iface 390 (.pointer (some (er 2))))] (oC hglob1 oN) ?_
    refine Yr [[]] (.iface 390 (.pointer (some (er 2)))) fun a w s=>?_
    rw[e]
    exact .inl ⟨rfl,_,s.ret (by simp) [] [] rfl rfl,.inr ⟨by decide,rfl⟩⟩
  obtain⟨t,ht⟩:∃t,c.when[c.place.toNat]?=some t:=⟨_,List.getElem?_eq_getElem (by omega)⟩
  have hg:¬(vecErr c.when≠0):=by simp[hv0]
  refine J_read0 1 rfl c.place.toNat (map_at ht) (by kernel_rfl) (fun b1 off1 cs1 ty1 fz1 ha1 hrd1=>?_)
  cases ha1
  have hrd1_0:=rd0 (hrd1 0 _ rfl)
  by_cases h0:t=0
  ·have e:comFault c=⟨2,-1⟩:=by
    by_cases h12:12<c.ops.length
    ·rw[comFault,if_neg hg,if_pos (by omega)]
    ·rw[comFault,if_neg hg,if_neg (by omega),if_pos (by rw[ht,h0])]
   try simp only[aQ]
   refine Zp ([zR 0,.rd 1 [.o 0 none] 0 0,.rd 2 [] 0 7,zR 3,zR 4,.rd 5 [.o 0 none] 0 0,zR 6,.rd 7 [.o 0 none] 0 0,zR 8,.rd 9 [] 0 7]++Rds 10 13++[.rd 13 [.o 0 none] 0 0,zR 14,.rd 15 [.o 0 none] 0 0,.rd 16 [] 0 2,.rd 17 [.r 2 (some (nI t))] 0 0,.rd 18 [] 0 6,zR 19,zR 20,.rd 21 [] 1 0,.rd 22 [] 1 0,.rd 23 [] 1 0,.rd 24 [] 1 0,zR 25]) [11,3] [zB 38 true] (oC (show decide (c.place<(0:Int))=false from by simp;omega) (oC (show decide (c.place≥(↑c.when.length:Int))=false from by simp;omega) (oC (show 0≤c.place from by omega) (oC (show c.place<(↑c.when.length:Int) from by omega) (oC hrd1_0 (oC (show(t==(0:Int))=true from by simp;omega) oN)))))) ?_
   refine cTt ?_
   refine Zt [.rd 0 [.r 0 (some (.iface 390 (.pointer (some (er 2)))))] 0 0,zR 1] [38] [zV 2 (.iface 390 (.pointer (some (er 2))))] (oC hglob1 oN) ?_
   refine Yr [[]] (.iface 390 (.pointer (some (er 2)))) fun a w s=>?_
   rw[e]
   exact .inl ⟨rfl,_,s.ret (by simp) [] [] rfl rfl,.inr ⟨by decide,rfl⟩⟩
  have h00:¬c.when[c.place.toNat]?=some 0:=by rw[ht];simpa using h0
  by_cases h12:12<c.ops.length
  ·have e:comFault c=⟨2,-1⟩:=by rw[comFault,if_neg hg,if_pos (by omega)]
   try simp only[aQ]
   refine Zp ([zR 0,.rd 1 [.o 0 none] 0 0,.rd 2 [] 0 7,zR 3,zR 4,.rd 5 [.o 0 none] 0 0,zR 6,.rd 7 [.o 0 none] 0 0,zR 8,.rd 9 [] 0 7]++Rds 10 13++[.rd 13 [.o 0 none] 0 0,zR 14,.rd 15 [.o 0 none] 0 0,.rd 16 [] 0 2,.rd 17 [.r 2 (some (nI t))] 0 0,.rd 18 [] 0 7]++Rds 19 22++[.rd 22 [.o 0 none] 0 0,zR 23,.rd 24 [] 0 6,zR 25]) [11,3] [zB 38 true] (oC (show decide (c.place<(0:Int))=false from by simp;omega) (oC (show decide (c.place≥(↑c.when.length:Int))=false from by simp;omega) (oC (show 0≤c.place from by omega) (oC (show c.place<(↑c.when.length:Int) from by omega) (oC hrd1_0 (oC (show(t==(0:Int))=false from by simp;omega) (oC (show decide ((↑c.ops.length:Int)>(12:Int))=true from by simp;omega) oN))))))) ?_
   refine cTt ?_
   refine Zt [.rd 0 [.r 0 (some (.iface 390 (.pointer (some (er 2)))))] 0 0,zR 1] [38] [zV 2 (.iface 390 (.pointer (some (er 2))))] (oC hglob1 oN) ?_
   refine Yr [[]] (.iface 390 (.pointer (some (er 2)))) fun a w s=>?_
   rw[e]
   exact .inl ⟨rfl,_,s.ret (by simp) [] [] rfl rfl,.inr ⟨by decide,rfl⟩⟩
  have hb2:¬(c.place<0∨c.when.length≤c.place∨12<c.ops.length):=by omega
  try simp only[aQ]
  refine Zp ([zR 0,.rd 1 [.o 0 none] 0 0,.rd 2 [] 0 7,zR 3,zR 4,.rd 5 [.o 0 none] 0 0,zR 6,.rd 7 [.o 0 none] 0 0,zR 8,.rd 9 [] 0 7]++Rds 10 13++[.rd 13 [.o 0 none] 0 0,zR 14,.rd 15 [.o 0 none] 0 0,.rd 16 [] 0 2,.rd 17 [.r 2 (some (nI t))] 0 0,.rd 18 [] 0 7]++Rds 19 22++[.rd 22 [.o 0 none] 0 0,zR 23,.rd 24 [] 0 7,zR 25]) [11,3] [zB 38 false] (oC (show decide (c.place<(0:Int))=false from by simp;omega) (oC (show decide (c.place≥(↑c.when.length:Int))=false from by simp;omega) (oC (show 0≤c.place from by omega) (oC (show c.place<(↑c.when.length:Int) from by omega) (oC hrd1_0 (oC (show(t==(0:Int))=false from by simp;omega) (oC (show decide ((↑c.ops.length:Int)>(12:Int))=false from by simp;omega) oN))))))) ?_
  refine cF ?_
  refine J_skip (J_seq ?_)
  refine Zs [zR 0,.rd 1 [.o 0 none] 0 0,zR 2,zR 3] [38] [zB 43 ((↑c.ops.length:Int)==0)] ?_
  refine cC (t:=(↑c.ops.length:Int)==0) (fun hz=>?_) (fun hz=>?_)
  ·have e:comFault c=⟨3,-1⟩:=by rw[comFault,if_neg hg,if_neg hb2,if_neg h00,if_pos (by simp at hz;simp[hz])]
   refine Zt [.rd 0 [.r 1 (some (.iface 390 (.pointer (some (er 3)))))] 0 0,zR 1] [43] [zV 2 (.iface 390 (.pointer (some (er 3))))] (oC hglob2 oN) ?_
   refine Yr [[]] (.iface 390 (.pointer (some (er 3)))) fun a w s=>?_
   rw[e]
   exact .inl ⟨rfl,_,s.ret (by simp) [] [] rfl rfl,.inr ⟨by decide,rfl⟩⟩
  have hz2:¬c.ops.length=0:=by simp at hz;simp[hz]
  have e:comFault c=opsFault c.ops c.when.length c.ops.length 0:=by rw[comFault,if_neg hg,if_neg hb2,if_neg h00,if_neg hz2]
  rw[e]
  refine J_skip (J_seq ?_)
  refine Zs [zR 0,.rd 1 [.o 0 none] 0 0,zR 2,zR 3] [43] [zS 46 a2 c.ops.length c2,zI 47 (↑c.ops.length:Int),zI 48 0] ?_
  refine J_block ?_
  refine J_loopx (fun i:Int=>[zP 1 (nu1 0),zV 2 .nilIface,zS 46 a2 c.ops.length c2,zI 47 (↑c.ops.length:Int),zI 48 i]) (fun i:Int=>[(nu1 0,.cells #[.slice (sA b1 off1) c.when.length c1,nI c.place,.slice a2 c.ops.length c2] 35 (0,0))]) (fun i:Int=>[]) (fun i:Int=>[(.nilIface,(dC er eb)),(.slice (sA b1 off1) c.when.length c1,(dInts c.when)),(.slice a2 c.ops.length c2,(D.sl 7 (List.map eOp c.ops))),(.pointer (sA 0 0),(D.ptr [D.v (Value.iface 390 (Value.pointer (some (er 2))))])),(.pointer (sA 1 0),(D.ptr [D.v (Value.iface 390 (Value.pointer (some (er 3))))]))]) (fun i:Int=>(c.ops.length - i).toNat) (fun i:Int=>(0≤i∧i≤c.ops.length∧∀j:Nat,0≤j→j<i.toNat→opErrAt c.ops c.when.length j=0)) 0 [1,2,46,47,48] [0] [] [0,1,2,3,4] ?_ (by kernel_rfl) rfl rfl rfl ?_
  ·exact⟨by simp,by omega,by simp⟩
  rintro i ⟨hi0,hi,hno⟩
  refine Zs [zR 0] [] [zB 49 (decide (i<(↑c.ops.length:Int)))] ?_
  refine J_seq ?_
  refine cC (t:=decide (i<(↑c.ops.length:Int))) (fun hlt=>?_) (fun hlt=>?_)
  ·have hlt2:i<c.ops.length:=by simpa using hlt
   obtain⟨o,ho⟩:∃o,c.ops[i.toNat]?=some o:=⟨_,List.getElem?_eq_getElem (by omega)⟩
   have hit:∀k:Nat,opErrAt c.ops c.when.length i.toNat=k→k≠0→opsFault c.ops c.when.length c.ops.length 0=⟨k,i⟩:=fun k hk h0=>by
    rw[(opsFault_from c.ops.length 0 i.toNat (Nat.zero_le _) hno).2 (by omega) (by rw[hk];exact h0),hk]
    congr 1
    omega
   have next:opErrAt c.ops c.when.length i.toNat=0→0≤i+1∧i+1≤c.ops.length∧∀j:Nat,0≤j→j<(i+1).toNat→opErrAt c.ops c.when.length j=0:=fun h=>⟨by omega,by omega,fun j h0 hj=>by
    by_cases hji:j=i.toNat
    ·rw[hji];exact h
    ·exact hno j h0 (by omega)⟩
   refine J_glob 4 rfl (fun csg3 tyg3 fzg3 hglob3=>?_)
   refine J_read1 2 rfl i.toNat (map_at ho) (by kernel_rfl) (fun b2 off2 cs2 ty2 fz2 a2_0 c2_0 ha2 hrd2=>?_)
   cases ha2
   have hrd2_0:=rd0 (hrd2 0 _ rfl)
   have hrd2_1:=hrd2 1 _ rfl
   have hrd2_2:=hrd2 2 _ rfl
   have hrd2_3:=hrd2 3 _ rfl
   have hrd2_4:=hrd2 4 _ rfl
   have hrd2_5:=hrd2 5 _ rfl
   have hrd2_6:=hrd2 6 _ rfl
   by_cases hi1:i=0
   ·have hz0:i.toNat=0:=by omega
    try simp only[aQ]
    refine J_skip (J_seq (J_block ?_))
    refine Zu [zR 0,.rd 1 [] 0 2,.rd 2 [.r 4 (some (nI o.no)),.r 4 (some (.string o.key)),.r 4 (some (nI o.kind)),.r 4 (some (.string o.text)),.r 4 (some (nI o.n)),.r 4 (some (.bool o.remove)),.r 4 (some (.slice (a2_0,c2_0).fst ((List.map eDot o.dots).length) c2_0))] 0 0,.wr 3 [] 0,zR 4,.wr 5 (hnO 1 7) 0] [(5,[])] [49] (fun nu2=>[zI 4 i,zP 5 (nu2 0)]) o0 (fun nu2=>[(nu2 0,.cells #[nI o.no,.string o.key,nI o.kind,.string o.text,nI o.n,.bool o.remove,.slice (a2_0,c2_0).fst ((List.map eDot o.dots).length) c2_0] 55 (0,0))]) (fun nu2=>(oC hi0 (oC hlt2 (oC hrd2_0 (oC hrd2_1 (oC hrd2_2 (oC hrd2_3 (oC hrd2_4 (oC hrd2_5 (oC hrd2_6 oN)))))))))) (fun nu2=>?_)
    refine jS [(0,true),(1,true),(2,true),(3,true),(4,false),(5,true)] [] ?_
    refine Ya [.rd 0 (hnO 1 7) 0 0,zR 1,.rd 2 [.o 0 none] 0 0,zR 3] [] [zV 53 (.agg #[nI o.no,.string o.key,nI o.kind,.string o.text,nI o.n,.bool o.remove,.slice (a2_0,c2_0).fst ((List.map eDot o.dots).length) c2_0]),zI 56 (↑c.when.length:Int)] ?_
    refine Yc 144 #[.agg #[nI o.no,.string o.key,nI o.kind,.string o.text,nI o.n,.bool o.remove,.slice (a2_0,c2_0).fst ((List.map eDot o.dots).length) c2_0],nI (↑c.when.length:Int)] (some 57) fun w S hG=>?_
    refine(vCheckOp (o:=o) (hG.at 0 rfl) (hG.at 5 rfl)).mono ?_
    rintro e1 w1 ⟨v,hR,hv⟩
    refine⟨_,_,_,hR,?_⟩
    obtain⟨he,rfl⟩|⟨he,rfl⟩:=hv
    ·try simp only[aQ]
     refine Ya [zR 5] [57,53,56] [zV 6 .nilIface] ?_
     refine JR_end (J_seq ?_)
     refine Zt (Rds 0 4++[.rd 4 [] 0 7,zR 5,zR 6,.rd 7 [] 1 0,.rd 8 [] 1 0,.rd 9 [] 1 0,.rd 10 [] 1 0,.rd 11 [] 1 0,.rd 12 [] 1 0,.rd 13 [] 1 0,.rd 14 [] 1 0,.rd 15 [] 1 0,.rd 16 [] 1 0,zR 17]) [] [zB 75 false] (oC (show decide (i>(0:Int))=false from by simp;omega) oN) ?_
     refine cF ?_
     refine J_skip ?_
     refine Zs [zR 0,zR 1] [75] [zB 78 false] ?_
     refine cF ?_
     refine J_skip (J_eb ?_)
     refine Zp [.rd 0 [] 0 1,zR 1] [78] [zI 48 (i+1)] (oC (show IntKind.i64.wrap (i+1)=i+1 from wrap_i64 (by omega) (by omega)) oN) ?_
     refine J_backx (i+1) [1,2,46,47,48] [0] [] [0,1,2,3,4] ?_ ?_ (by kernel_rfl) rfl rfl rfl
     ·exact next (by rw[hz0]at ho ⊢;exact opErrAt_first ho he)
     ·omega
    ·try simp only[aQ]
     refine Ya [zR 5] [57,53,56] [zV 6 (.iface 390 (.pointer (some (er (opErr o (↑c.when.length:Int))))))] ?_
     refine JR_end (J_seq ?_)
     refine Zs (Rds 0 3++[.rd 3 [] 1 0,.rd 4 [] 1 0,zR 5,zR 6,.rd 7 [] 1 0,.rd 8 [] 1 0,.rd 9 [] 1 0,.rd 10 [] 1 0,.rd 11 [] 1 0,.rd 12 [] 1 0,.rd 13 [] 1 0,.rd 14 [] 1 0,.rd 15 [] 1 0,.rd 16 [] 1 0,zR 17]) [] [zB 75 false] ?_
     refine cF ?_
     refine J_skip ?_
     refine Zs [zR 0,zR 1] [75] [zB 78 true] ?_
     refine cTt ?_
     refine Zv (Rds 0 3++[.wr 3 [] 0,zR 4,zR 5]) [] [78] (fun nu3=>[zV 2 (.iface 202 (.pointer (sA (nu3 0) 0)))]) o0 (fun nu3=>[(nu3 0,.cells #[nI i,.iface 390 (.pointer (some (er (opErr o (↑c.when.length:Int)))))] 204 (0,0))]) (fun nu3=>?_)
     refine Yr [[]] (.iface 202 (.pointer (sA (nu3 0) 0))) fun a w s=>?_
     rw[hit _ (opErrAt_own ho he) he]
     exact .inr ⟨by simp only;omega,hi0,_,((s.share 2 rfl).stp (stp_fact fun w S H=>ptr_of_obj rfl rfl (H (_,_) (List.mem_of_getElem? (i:=6) rfl)))).ret (by simp) [] [7] rfl rfl⟩
   ·obtain⟨q,hq⟩:∃q,c.ops[(i - 1).toNat]?=some q:=⟨_,List.getElem?_eq_getElem (by omega)⟩
    have hii:i.toNat=(i - 1).toNat+1:=by omega
    refine J_again1 2 rfl 4 rfl ((i - 1).toNat) (map_at hq) (by kernel_rfl) (fun a3_0 c3_0 hrd3=>?_)
    have hrd3_0:=rd0 (hrd3 0 _ rfl)
    have hrd3_1:=hrd3 1 _ rfl
    have hrd3_2:=hrd3 2 _ rfl
    have hrd3_3:=hrd3 3 _ rfl
    have hrd3_4:=hrd3 4 _ rfl
    have hrd3_5:=hrd3 5 _ rfl
    have hrd3_6:=hrd3 6 _ rfl
    try simp only[aQ]
    refine J_skip (J_seq (J_block ?_))
    refine Zu [zR 0,.rd 1 [] 0 2,.rd 2 [.r 4 (some (nI o.no)),.r 4 (some (.string o.key)),.r 4 (some (nI o.kind)),.r 4 (some (.string o.text)),.r 4 (some (nI o.n)),.r 4 (some (.bool o.remove)),.r 4 (some (.slice (a2_0,c2_0).fst ((List.map eDot o.dots).length) c2_0))] 0 0,.wr 3 [] 0,zR 4,.wr 5 (hnO 1 7) 0] [(5,[])] [49] (fun nu2=>[zI 4 i,zP 5 (nu2 0)]) o0 (fun nu2=>[(nu2 0,.cells #[nI o.no,.string o.key,nI o.kind,.string o.text,nI o.n,.bool o.remove,.slice (a2_0,c2_0).fst ((List.map eDot o.dots).length) c2_0] 55 (0,0))]) (fun nu2=>(oC hi0 (oC hlt2 (oC hrd2_0 (oC hrd2_1 (oC hrd2_2 (oC hrd2_3 (oC hrd2_4 (oC hrd2_5 (oC hrd2_6 oN)))))))))) (fun nu2=>?_)
    refine jS [(0,true),(1,true),(2,true),(3,true),(4,false),(5,true)] [] ?_
    refine Ya [.rd 0 (hnO 1 7) 0 0,zR 1,.rd 2 [.o 0 none] 0 0,zR 3] [] [zV 53 (.agg #[nI o.no,.string o.key,nI o.kind,.string o.text,nI o.n,.bool o.remove,.slice (a2_0,c2_0).fst ((List.map eDot o.dots).length) c2_0]),zI 56 (↑c.when.length:Int)] ?_
    refine Yc 144 #[.agg #[nI o.no,.string o.key,nI o.kind,.string o.text,nI o.n,.bool o.remove,.slice (a2_0,c2_0).fst ((List.map eDot o.dots).length) c2_0],nI (↑c.when.length:Int)] (some 57) fun w S hG=>?_
    refine(vCheckOp (o:=o) (hG.at 0 rfl) (hG.at 5 rfl)).mono ?_
    rintro e1 w1 ⟨v,hR,hv⟩
    refine⟨_,_,_,hR,?_⟩
    obtain⟨he,rfl⟩|⟨he,rfl⟩:=hv
    ·have hn:=opErrAt_next (p:=c.when.length) (by rw[←hii];exact ho) hq he
     rw[←hii]at hn
     by_cases hno2:o.no≤q.no
     ·rw[if_pos hno2]at hn
      try simp only[aQ]
      refine Ya [zR 5] [57,53,56] [zV 6 .nilIface] ?_
      refine JR_end (J_seq ?_)
      refine Zt (Rds 0 4++[.rd 4 [] 0 6]++Rds 5 8++[.rd 8 [.o 1 none] 0 0,zR 9,.rd 10 [.o 0 none] 0 0,zR 11,.rd 12 [] 0 1,.rd 13 [] 0 2,zR 14,.rd 15 [.r 4 (some (nI q.no))] 0 0,.rd 16 [] 0 6,zR 17]) [] [zB 75 true] (oC (show decide (i>(0:Int))=true from by simp;omega) (oC (show IntKind.i64.wrap (i - 1)=i - 1 from wrap_i64 (by omega) (by omega)) (oC (show 0≤i - 1 from by omega) (oC (show i - 1<(↑c.ops.length:Int) from by omega) (oC hrd3_0 (oC (show decide (o.no≤q.no)=true from by simp;omega) oN)))))) ?_
      refine cTt ?_
      refine Zp [.rd 0 [.r 1 (some (.iface 390 (.pointer (some (er 3)))))] 0 0,zR 1] [75] [zV 6 (.iface 390 (.pointer (some (er 3))))] (oC hglob2 oN) ?_
      refine Zs [zR 0,zR 1] [] [zB 78 true] ?_
      refine cTt ?_
      refine Zv (Rds 0 3++[.wr 3 [] 0,zR 4,zR 5]) [] [78] (fun nu3=>[zV 2 (.iface 202 (.pointer (sA (nu3 0) 0)))]) o0 (fun nu3=>[(nu3 0,.cells #[nI i,.iface 390 (.pointer (some (er 3)))] 204 (0,0))]) (fun nu3=>?_)
      refine Yr [[]] (.iface 202 (.pointer (sA (nu3 0) 0))) fun a w s=>?_
      rw[hit _ hn (by decide)]
      exact .inr ⟨by simp only;omega,hi0,_,((s.share 2 rfl).stp (stp_fact fun w S H=>ptr_of_obj rfl rfl (H (_,_) (List.mem_of_getElem? (i:=7) rfl)))).ret (by simp) [] [8] rfl rfl⟩
     ·rw[if_neg hno2]at hn
      try simp only[aQ]
      refine Ya [zR 5] [57,53,56] [zV 6 .nilIface] ?_
      refine JR_end (J_seq ?_)
      refine Zt (Rds 0 4++[.rd 4 [] 0 6]++Rds 5 8++[.rd 8 [.o 1 none] 0 0,zR 9,.rd 10 [.o 0 none] 0 0,zR 11,.rd 12 [] 0 1,.rd 13 [] 0 2,zR 14,.rd 15 [.r 4 (some (nI q.no))] 0 0,.rd 16 [] 0 7,zR 17]) [] [zB 75 false] (oC (show decide (i>(0:Int))=true from by simp;omega) (oC (show IntKind.i64.wrap (i - 1)=i - 1 from wrap_i64 (by omega) (by omega)) (oC (show 0≤i - 1 from by omega) (oC (show i - 1<(↑c.ops.length:Int) from by omega) (oC hrd3_0 (oC (show decide (o.no≤q.no)=false from by simp;omega) oN)))))) ?_
      refine cF ?_
      refine J_skip ?_
      refine Zs [zR 0,zR 1] [75] [zB 78 false] ?_
      refine cF ?_
      refine J_skip (J_eb ?_)
      refine Zp [.rd 0 [] 0 1,zR 1] [78] [zI 48 (i+1)] (oC (show IntKind.i64.wrap (i+1)=i+1 from wrap_i64 (by omega) (by omega)) oN) ?_
      refine J_backx (i+1) [1,2,46,47,48] [0] [] [0,1,2,3,4] ?_ ?_ (by kernel_rfl) rfl rfl rfl
      ·exact next hn
      ·omega
    ·try simp only[aQ]
     refine Ya [zR 5] [57,53,56] [zV 6 (.iface 390 (.pointer (some (er (opErr o (↑c.when.length:Int))))))] ?_
     refine JR_end (J_seq ?_)
     refine Zs (Rds 0 3++[.rd 3 [] 1 0,.rd 4 [] 1 0,zR 5,zR 6,.rd 7 [] 1 0,.rd 8 [] 1 0,.rd 9 [] 1 0,.rd 10 [] 1 0,.rd 11 [] 1 0,.rd 12 [] 1 0,.rd 13 [] 1 0,.rd 14 [] 1 0,.rd 15 [] 1 0,.rd 16 [] 1 0,zR 17]) [] [zB 75 false] ?_
     refine cF ?_
     refine J_skip ?_
     refine Zs [zR 0,zR 1] [75] [zB 78 true] ?_
     refine cTt ?_
     refine Zv (Rds 0 3++[.wr 3 [] 0,zR 4,zR 5]) [] [78] (fun nu3=>[zV 2 (.iface 202 (.pointer (sA (nu3 0) 0)))]) o0 (fun nu3=>[(nu3 0,.cells #[nI i,.iface 390 (.pointer (some (er (opErr o (↑c.when.length:Int)))))] 204 (0,0))]) (fun nu3=>?_)
     refine Yr [[]] (.iface 202 (.pointer (sA (nu3 0) 0))) fun a w s=>?_
     rw[hit _ (opErrAt_own ho he) he]
     exact .inr ⟨by simp only;omega,hi0,_,((s.share 2 rfl).stp (stp_fact fun w S H=>ptr_of_obj rfl rfl (H (_,_) (List.mem_of_getElem? (i:=7) rfl)))).ret (by simp) [] [8] rfl rfl⟩
  ·have hend:i.toNat=0+c.ops.length:=by simp at hlt;omega
   rw[(opsFault_from c.ops.length 0 i.toNat (Nat.zero_le _) hno).1 hend]
   refine J_exit rfl ?_
   refine Zs [zR 0] [49,1,46,47,48] [] ?_
   refine Yr [[]] (.nilIface) fun a w s=>?_
   exact .inl ⟨rfl,_,s.ret (by simp) [] [] rfl rfl,.inl ⟨rfl,rfl⟩⟩
 ·have e:comFault c=⟨vecErr c.when,-1⟩:=by rw[comFault,if_pos hv0]
  try simp only[aQ]
  refine Ya [zR 3] [9,8] [zV 3 (.iface 390 (.pointer (some (er (vecErr c.when)))))] ?_
  refine JR_end ?_
  refine Zs [zR 0,zR 1] [] [zB 11 true] ?_
  refine cTt ?_
  refine Zs [zR 0,zR 1] [11,3] [zV 2 (.iface 390 (.pointer (some (er (vecErr c.when)))))] ?_
  refine Yr [[]] (.iface 390 (.pointer (some (er (vecErr c.when))))) fun a w s=>?_
  rw[e]
  exact .inl ⟨rfl,_,s.ret (by simp) [] [] rfl rfl,.inr ⟨hv0,rfl⟩⟩
end Go.Proofs.YtmkapocibaojdaaGreatDoor
end
section
namespace Go.Proofs.YtmkapocibaojdaaGreatDoor
open Go Go.Sx
set_option maxHeartbeats 4000000 in
theorem asNil {w:World} {S:Nat→Prop} {t:Addr}:Calls Tryz.prog 123 #[.nilIface,.iface 229 (.pointer (some t))] w fun e w'=>Ret [] w S w' e (.bool false) [] []:=by
 refine epG Tryz.func123 bd123 (args:=[.nilIface,.iface 229 (.pointer (some t))]) (S:=S) (G:=[]) (by kernel_rfl) (.nil _ _) ?_
 refine Zs [zR 0] [] [zB 4 false] ?_
 refine J_seq ?_
 refine Zs [zR 0,zR 1] [] [zB 9 true] ?_
 refine cTt ?_
 refine Zs [zR 0] [9] [] ?_
 refine Yr [[]] (.bool false) fun a w s=>?_
 exact s.ret (by simp) [] [] rfl rfl
set_option maxHeartbeats 4000000 in
theorem bareE {w:World} {S:Nat→Prop} {er:Nat→Addr} {eb:Nat→Array Value×TypeId} {k:Nat} {v:Value} (hC:Rep w S .nilIface (dC er eb)) (hv:ErrIs 390 er k v) :
  Calls Tryz.prog 164 #[v] w fun e w'=>Ret [] w S w' e v [] []:=by
 rcases hv with ⟨rfl,rfl⟩|⟨h0,rfl⟩
 ·refine epG Tryz.func164 bd164 (args:=[.nilIface]) (G:=[(_,dC er eb)]) (by kernel_rfl) (.cons hC (.nil _ _)) ?_
  refine Zs [zR 0] [] [zV 2 .nilIface] ?_
  refine Zv [.wr 0 [] 0] [] [] (fun nu1=>[zP 3 (nu1 0)]) o0 (fun nu1=>[(nu1 0,.cells #[.pointer none] 202 (0,0))]) (fun nu1=>?_)
  refine J_seq ?_
  refine jS [(0,true),(1,true),(2,false)] [] ?_
  refine Ya [zR 0,zR 1] [] [zV 4 .nilIface,zV 5 (.iface 229 (.pointer (sA (nu1 0) 0)))] ?_
  refine Yc 123 #[.nilIface,.iface 229 (.pointer (sA (nu1 0) 0))] (some 6) fun w S hG=>?_
  refine(asNil (S:=S)).mono ?_
  rintro e1 w1 hR
  refine⟨_,_,_,hR,?_⟩
  try simp only[aQ]
  refine JR_end ?_
  refine cF ?_
  refine J_skip ?_
  refine Zs [zR 0,zR 1] [6,4,5,3,0] [] ?_
  refine Yr [[]] (.nilIface) fun a w s=>?_
  exact s.ret (by simp) [] [] rfl rfl
 ·refine epG Tryz.func164 bd164 (args:=[.iface 390 (.pointer (some (er k)))]) (G:=[(_,dC er eb)]) (by kernel_rfl) (.cons hC (.nil _ _)) ?_
  refine Zs [zR 0] [] [zV 2 .nilIface] ?_
  refine Zv [.wr 0 [] 0] [] [] (fun nu1=>[zP 3 (nu1 0)]) o0 (fun nu1=>[(nu1 0,.cells #[.pointer none] 202 (0,0))]) (fun nu1=>?_)
  refine J_seq ?_
  refine jS [(0,true),(1,true),(2,false)] [] ?_
  refine Ya [zR 0,zR 1] [] [zV 4 (.iface 390 (.pointer (some (er k)))),zV 5 (.iface 229 (.pointer (sA (nu1 0) 0)))] ?_
  refine Yc 123 #[.iface 390 (.pointer (some (er k))),.iface 229 (.pointer (sA (nu1 0) 0))] (some 6) fun w S hG=>?_
  refine(asMiss (hG.at 0 rfl)).mono ?_
  rintro e1 w1 hR
  refine⟨_,_,_,hR,?_⟩
  try simp only[aQ]
  refine JR_end ?_
  refine cF ?_
  refine J_skip ?_
  refine Zs [zR 0,zR 1] [6,4,5,3,0] [zV 2 (.iface 390 (.pointer (some (er k))))] ?_
  refine Yr [[]] (.iface 390 (.pointer (some (er k)))) fun a w s=>?_
  exact s.ret (by simp) [] [] rfl rfl
set_option maxHeartbeats 4000000 in
theorem bareF {w:World} {S:Nat→Prop} {er:Nat→Addr} {eb:Nat→Array Value×TypeId} {k pb:Nat} {at':Int} (hC:Rep w S .nilIface (dC er eb)) (hp:Rep w S (.pointer (some ⟨pb,0,none⟩)) (.ptr [.v (.int .i64 at'),.v (.iface 390 (.pointer (some (er k))))])) :
  Calls Tryz.prog 164 #[.iface 202 (.pointer (some ⟨pb,0,none⟩))] w fun e w'=>Ret [] w S w' e (.iface 390 (.pointer (some (er k)))) [] []:=by
 refine epG Tryz.func164 bd164 (args:=[.iface 202 (.pointer (some ⟨pb,0,none⟩))]) (G:=[(_,dC er eb),(_,.ptr [.v (.int .i64 at'),.v (.iface 390 (.pointer (some (er k))))])]) (by kernel_rfl) (.cons hC (.cons hp (.nil _ _))) ?_
 refine J_ptrl 1 rfl fun b off cs e fz ls he hl hc=>?_
 cases he
 obtain rfl:ls=[]:=List.eq_nil_of_length_eq_zero hl
 have hc1:cs[0+1]?=some (.iface 390 (.pointer (some (er k)))):=hc 1 _ rfl
 try simp only[aQ]
 refine Zs [zR 0] [] [zV 2 .nilIface] ?_
 refine Zv [.wr 0 [] 0] [] [] (fun nu1=>[zP 3 (nu1 0)]) o0 (fun nu1=>[(nu1 0,.cells #[.pointer none] 202 (0,0))]) (fun nu1=>?_)
 refine J_seq (J_seq ?_)
 refine J_hide 0 rfl ?_
 try simp only[aQ]
 refine jT [(0,true),(1,true),(2,false)] [] ?_
 refine Ya [zR 0,zR 1] [] [zV 4 (.iface 202 (.pointer (sA pb 0))),zV 5 (.iface 229 (.pointer (sA (nu1 0) 0)))] ?_
 refine JR_call [] [0] 123 #[.iface 202 (.pointer (some (⟨pb,0,none⟩))),.iface 229 (.pointer (some (⟨nu1 0,0,none⟩)))] (some 6) (by kernel_rfl) (by kernel_rfl) (by decide) (fun w S M hP hG _=>?_)
 refine(asHit (hG.at 0 rfl) hP).mono ?_
 rintro e1 w1 hR
 refine⟨_,_,_,hR,?_⟩
 try simp only[aQ]
 refine JR_end ?_
 try simp only[aQ]
 refine cTt ?_
 try simp only[aQ]
 refine J_seq ?_
 try simp only[aQ]
 refine J_show 0 rfl ?_
 refine Zp [.rd 0 [.o 0 none] 0 0,zR 1,zR 2,.rd 3 [.r 0 (some (.iface 390 (.pointer (some (er k)))))] 0 0,zR 4] [6,4,5,3] [zV 2 (.iface 390 (.pointer (some (er k))))] (oC hc1 oN) ?_
 refine Yr [[]] (.iface 390 (.pointer (some (er k)))) fun a w s=>?_
 exact s.ret (by simp) [] [] rfl rfl
end Go.Proofs.YtmkapocibaojdaaGreatDoor
end
section
namespace Go.Sx
open Go
theorem strEq (a b:ByteArray):(a.toList==b.toList)=decide (a=b):=by
 rw[ByteArray.toList_eq,ByteArray.toList_eq]
 by_cases h:a=b
 ·subst h;simp
 ·rw[decide_eq_false h]
  simp only[beq_eq_false_iff_ne,ne_eq]
  intro he
  apply h
  cases a;cases b
  simp only[ByteArray.mk.injEq]
  exact Array.toList_inj.1 he
def wsum (xs:List Int):Int:=xs.foldl (· + ·) 0
def cmpI (x y:Int):Int:=if x<y then -1 else if y<x then 1 else 0
def orL:List Int→Int
 | []=>0
 | x::l=>if x≠0 then x else orL l
theorem orL_none:∀{l:List Int},(∀(j:Nat) t,l[j]?=some t→t=0)→orL l=0
 | [],_=>rfl
 | x::l,h=>by
  have h0:=h 0 x rfl
  rw[orL,if_neg (by simp[h0])]
  exact orL_none fun j t ht=>h (j+1) t (by simpa using ht)
theorem orL_at:∀{l:List Int} {i:Nat} {x:Int},(∀j:Nat,j<i→∀t,l[j]?=some t→t=0)→l[i]?=some x→x≠0→orL l=x
 | [],_,_,_,h,_=>by simp at h
 | y::l,0,x,_,h,hx=>by
  simp only[List.getElem?_cons_zero,Option.some.injEq]at h
  subst h
  rw[orL,if_pos hx]
 | y::l,i+1,x,hz,h,hx=>by
  have h0:=hz 0 (by omega) y rfl
  rw[orL,if_neg (by simp[h0])]
  exact orL_at (i:=i) (fun j hj t ht=>hz (j+1) (by omega) t (by simpa using ht)) (by simpa using h) hx
def lexC:List Int→List Int→Int
 | x::xs,y::ys=>if cmpI x y≠0 then cmpI x y else lexC xs ys
 | _,_=>0
theorem cmpI_zero {x y:Int}:cmpI x y=0↔x=y:=by
 unfold cmpI
 split
 ·omega
 ·split <;> omega
theorem cmpI_neg {x y:Int}:cmpI x y<0↔x<y:=by
 unfold cmpI
 split
 ·omega
 ·split <;> omega
theorem lexC_self:∀xs:List Int,lexC xs xs=0
 | []=>rfl
 | x::xs=>by
  have h:cmpI x x=0:=cmpI_zero.2 rfl
  simp[lexC,h,lexC_self xs]
theorem lexC_neg {x y:Int} {xs ys:List Int}:lexC (x::xs) (y::ys)<0↔x<y∨(x=y∧lexC xs ys<0):=by
 rw[lexC]
 by_cases h:cmpI x y=0
 ·have:=cmpI_zero.1 h
  rw[if_neg (by simpa using h)]
  simp[this]
 ·have h2:x≠y:=fun he=>h (cmpI_zero.2 he)
  rw[if_pos h,cmpI_neg]
  simp[h2]
theorem lexC_tri:∀{xs ys:List Int},xs.length=ys.length→lexC xs ys<0∨xs=ys∨lexC ys xs<0
 | [],[],_=>.inr (.inl rfl)
 | x::xs,y::ys,hl=>by
  rw[lexC_neg,lexC_neg]
  rcases Int.lt_trichotomy x y with h|h|h
  ·exact .inl (.inl h)
  ·subst h
   rcases lexC_tri (xs:=xs) (ys:=ys) (by simpa using hl)with h|h|h
   ·exact .inl (.inr ⟨rfl,h⟩)
   ·subst h;exact .inr (.inl rfl)
   ·exact .inr (.inr (.inr ⟨rfl,h⟩))
  ·exact .inr (.inr (.inl h))
theorem lexC_trans:∀{xs ys zs:List Int},lexC xs ys<0→lexC ys zs<0→lexC xs zs<0
 | x::xs,y::ys,z::zs,h1,h2=>by
  rw[lexC_neg]at h1 h2 ⊢
  rcases h1 with h1|⟨rfl,h1⟩ <;> rcases h2 with h2|⟨rfl,h2⟩
  ·exact .inl (Int.lt_trans h1 h2)
  ·exact .inl h1
  ·exact .inl h2
  ·exact .inr ⟨rfl,lexC_trans h1 h2⟩
 | [],_,_,h1,_=>by simp[lexC]at h1
 | _::_,[],_,h1,_=>by simp[lexC]at h1
 | _::_,_::_,[],_,h2=>by simp[lexC]at h2
theorem lexC_asymm {xs ys:List Int} (h1:lexC xs ys<0) (h2:lexC ys xs<0):False:=by
 have:=lexC_trans h1 h2
 rw[lexC_self]at this
 omega
structure DoneT where
 o:OpT
 d:DotT
 w:Int
abbrev eDone (x:DoneT):List D:=[dI x.o.no,.v (.string x.o.key),dI x.o.kind,.v (.string x.o.text),dI x.o.n,.v (.bool x.o.remove),.sl 3 (x.o.dots.map eDot),dI x.d.place,dI x.d.time,dI x.d.no,dI x.w]
def dotOf (c:ComT) (o:OpT):DotT:=⟨c.place,c.when.getD c.place.toNat 0,o.no⟩
def doneOf (c:ComT) (o:OpT):DoneT:=⟨o,dotOf c o,wsum c.when⟩
def allDone (l:List ComT):List DoneT:=l.flatMap fun c=>c.ops.map (doneOf c)
def firsts:List DotT→List DoneT→List DoneT
 | _,[]=>[]
 | s,x::r=>if x.d∈s then firsts s r else x::firsts (x.d::s) r
theorem firsts_snoc:∀{s:List DotT} {l:List DoneT} {x:DoneT},firsts s (l++[x])=firsts s l++if x.d∈s∨x.d∈l.map (·.d)then []else [x]
 | s,[],x=>by simp[firsts]
 | s,y::r,x=>by
  rw[List.cons_append,firsts,firsts]
  by_cases hy:y.d∈s
  ·rw[if_pos hy,if_pos hy,firsts_snoc]
   congr 1
   by_cases hx:x.d∈s
   ·simp[hx]
   ·by_cases he:x.d=y.d
    ·rw[he]at hx;exact absurd hy hx
    ·simp[hx,he]
  ·rw[if_neg hy,if_neg hy,firsts_snoc]
   simp[or_assoc,or_left_comm]
theorem firsts_sub {s:List DotT} {l:List DoneT} {x:DoneT} (h:x∈firsts s l):x∈l∧x.d∉s:=by
 induction l generalizing s with
 | nil=>simp[firsts]at h
 | cons y r ih=>
  unfold firsts at h
  split at h
  ·have:=ih h
   exact⟨.tail _ this.1,this.2⟩
  ·rename_i hy
   rcases List.mem_cons.1 h with rfl|h
   ·exact⟨.head _,hy⟩
   ·have:=ih h
    exact⟨.tail _ this.1,fun hc=>this.2 (.tail _ hc)⟩
theorem firsts_nodup {s:List DotT} {l:List DoneT}:((firsts s l).map (·.d)).Nodup:=by
 induction l generalizing s with
 | nil=>simp[firsts]
 | cons y r ih=>
  unfold firsts
  split
  ·exact ih
  ·rw[List.map_cons,List.nodup_cons]
   refine⟨fun hm=>?_,ih⟩
   obtain⟨x,hx,he⟩:=List.mem_map.1 hm
   exact(firsts_sub hx).2 (by rw[he];exact .head _)
def doneKey (x:DoneT):List Int:=[x.w,x.d.place,x.d.time,x.d.no]
def doneCmp (a b:DoneT):Int:=orL [cmpI a.w b.w,cmpI a.d.place b.d.place,cmpI a.d.time b.d.time,cmpI a.d.no b.d.no]
theorem doneCmp_eq (a b:DoneT):doneCmp a b=lexC (doneKey a) (doneKey b):=by
 simp[doneCmp,doneKey,lexC,orL]
def doneLt (a b:DoneT):Bool:=decide (doneCmp a b<0)
theorem doneLt_iff {a b:DoneT}:doneLt a b=true↔lexC (doneKey a) (doneKey b)<0:=by simp[doneLt,doneCmp_eq]
theorem doneKey_dot {a b:DoneT} (h:doneKey a=doneKey b):a.d=b.d:=by
 simp only[doneKey,List.cons.injEq,and_true]at h
 cases ha:a.d;cases hb:b.d
 simp_all
theorem doneLt_trans {a b c:DoneT} (h1:doneLt a b=true) (h2:doneLt b c=true):doneLt a c=true:=by
 rw[doneLt_iff]at *
 exact lexC_trans h1 h2
theorem doneLt_asymm {a b:DoneT} (h1:doneLt a b=true) (h2:doneLt b a=true):False:=by
 rw[doneLt_iff]at *
 exact lexC_asymm h1 h2
theorem doneLt_tri (a b:DoneT):doneLt a b=true∨doneKey a=doneKey b∨doneLt b a=true:=by
 rw[doneLt_iff,doneLt_iff]
 exact lexC_tri rfl
def sortDone (l:List DoneT):List DoneT:=l.mergeSort fun x y=>!doneLt y x
def opsRaw (key:ByteArray) (l:List ComT):List DoneT:=(firsts [] (allDone l)).filter fun x=>decide (x.o.key=key)
def opsOf (key:ByteArray) (l:List ComT):List DoneT:=sortDone (opsRaw key l)
def kindOf (l:List DoneT):Int:=match l with
 | []=>0
 | x::_=>x.o.kind
def kindL (l:List DoneT):List DoneT:=l.filter fun x=>decide (x.o.kind=kindOf l)
def ofKey (key:ByteArray) (l:List ComT):List DoneT:=kindL (opsOf key l)
def goneB (l:List DoneT) (t:ByteArray) (d:DotT):Bool:=l.any fun r=>r.o.remove&&(decide (r.o.text=t)&&decide (d∈r.o.dots))
def liveL (l:List DoneT):List DoneT:=l.filter fun a=>!a.o.remove&&!goneB l a.o.text a.d
def textDots (l:List DoneT) (t:ByteArray):List DotT:=((liveL l).filter fun a=>decide (a.o.text=t)).map (·.d)
def bLt (a b:ByteArray):Bool:=decide (a.toList<b.toList)
def enterB:List ByteArray→ByteArray→List ByteArray
 | [],s=>[s]
 | x::l,s=>if bLt x s then x::enterB l s else if x=s then x::l else s::x::l
def setOf (l:List ByteArray):List ByteArray:=l.foldl enterB []
structure ValT where
 kind:Int
 text:ByteArray
 n:Int
 set:List ByteArray
def lastText (l:List DoneT):ByteArray:=l.foldl (fun _ x=>x.o.text) (ByteArray.mk #[])
def sumN (l:List DoneT):Int:=l.foldl (fun s x=>s+x.o.n) 0
def valOf (key:ByteArray) (l:List ComT):ValT:=
 ⟨kindOf (opsOf key l),if kindOf (opsOf key l)=1 then lastText (ofKey key l)else ByteArray.mk #[],if kindOf (opsOf key l)=2 then sumN (ofKey key l)else 0,if kindOf (opsOf key l)=3 then setOf ((liveL (ofKey key l)).map (·.o.text))else []⟩
def dotKey (d:DotT):List Int:=[d.place,d.time,d.no]
def dotCmp (a b:DotT):Int:=orL [cmpI a.place b.place,cmpI a.time b.time,cmpI a.no b.no]
theorem dotCmp_eq (a b:DotT):dotCmp a b=lexC (dotKey a) (dotKey b):=by
 simp[dotCmp,dotKey,lexC,orL]
def dotLt (a b:DotT):Bool:=decide (dotCmp a b<0)
theorem dotLt_iff {a b:DotT}:dotLt a b=true↔lexC (dotKey a) (dotKey b)<0:=by simp[dotLt,dotCmp_eq]
theorem dotKey_inj {a b:DotT} (h:dotKey a=dotKey b):a=b:=by
 simp only[dotKey,List.cons.injEq,and_true]at h
 cases a;cases b
 simp_all
theorem dotLt_tri (a b:DotT):dotLt a b=true∨a=b∨dotLt b a=true:=by
 rw[dotLt_iff,dotLt_iff]
 rcases lexC_tri (xs:=dotKey a) (ys:=dotKey b) rfl with h|h|h
 ·exact .inl h
 ·exact .inr (.inl (dotKey_inj h))
 ·exact .inr (.inr h)
def sortDots (l:List DotT):List DotT:=l.mergeSort fun x y=>!dotLt y x
def dotsOf (key text:ByteArray) (l:List ComT):List DotT:=if kindOf (opsOf key l)=3 then sortDots (textDots (ofKey key l) text)else []
end Go.Sx
end
