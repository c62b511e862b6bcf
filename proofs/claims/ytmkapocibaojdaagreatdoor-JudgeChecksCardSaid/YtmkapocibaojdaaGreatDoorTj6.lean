/- Part 6 of the texts of a claim: Fault Msg2 ComErr2 Bare Val CmpD ListF. -/
import Derived.Test.YtmkapocibaojdaaGreatDoorTj5
section
namespace Go.Proofs.YtmkapocibaojdaaGreatDoor
open Go Go.Sx
set_option maxHeartbeats 4000000 in
theorem setCell_at {w:World} {b:Nat} {old x:Value} {ty:TypeId} {fz:Nat×Nat} (h:w.heap[b]?=some (.cells #[old] ty fz)):(w.setCell ⟨b,0,none⟩ x).heap[b]?=some (.cells #[x] ty fz):=by
 simp[World.setCell,Array.getElem?_modify,h,Array.setIfInBounds]
set_option maxHeartbeats 4000000 in
theorem alloc_old {w:World} {o o':Obj} {b:Nat} (h:w.heap[b]?=some o):(w.alloc o').heap[b]?=some o:=by
 rw[RowKit.Below.heap_alloc _ _ _ (Array.getElem?_eq_some_iff.1 h).1]
 exact h
set_option maxHeartbeats 4000000 in
theorem asHit {w:World} {S:Nat→Prop} {M:List Nat} {p:Addr} {t:Nat} {old:Value} {ty:TypeId} {er:Nat→Addr} {eb:Nat→Array Value×TypeId} (hC:Rep w S .nilIface (dC er eb)) (hp:Pre w S M [cObj t (.cells #[old] ty (0,0))]) :
  Calls Tryz.prog 123 #[.iface 202 (.pointer (some p)),.iface 229 (.pointer (some ⟨t,0,none⟩))] w fun e w'=>Ret M w S w' e (.bool true) [cObj t (.cells #[.pointer (some p)] ty (0,0))] []:=by
 obtain⟨fps,hch,rfl,hnd,hM⟩:=hp
 match fps,hch with
 | [fp],⟨⟨hfp,hb⟩,_⟩=>
  subst hfp
  have hl:=(Array.getElem?_eq_some_iff.1 hb).1
  refine(Er.as_hit p ⟨t,0,none⟩ old w (var_of (hC.part _ (List.mem_of_getElem? (i:=12) rfl))) (by simp[World.cell?,hb]) (by simp[World.frozen?,hb])).mono ?_
  rintro e w' ⟨he,rfl⟩
  have hbl:=(((RowKit.Below.refl _ w).alloc (Nat.le_refl _) (.cells #[.pointer (some ⟨t,0,none⟩)] 229)).alloc (by simp) (.cells #[.pointer (some ⟨13,229,none⟩),.pointer (some ⟨w.heap.size,0,none⟩),.int .u64 150] 285)).alloc (by simp;omega) (.cells #[.pointer (some ⟨13,229,none⟩),.pointer (some ⟨w.heap.size,0,none⟩),.int .u64 150] 285) |>.alloc (by simp;omega) (.cells #[.pointer (some p)] 202)
  refine⟨he,⟨hbl.os,hbl.tape,hbl.output,by simpa [World.setCell]using hbl.size,fun b hbs hn=>?_,Nat.le_refl _⟩,[[t]],⟨⟨rfl,?_⟩,trivial⟩,by simp,fun b hb'=>?_,by simp⟩
  ·rw[RowKit.Below.heap_setCell _ _ _ _ (by simpa using hn)]
   exact hbl.block b hbs
  ·exact setCell_at (alloc_old (alloc_old (alloc_old (alloc_old hb))))
  ·obtain rfl:b=t:=by simpa using hb'
   refine⟨.inl (by simp),?_⟩
   simp[World.setCell]
   omega
 | [],h=>exact h.elim
 | _::_::_,h=>exact h.2.elim
set_option maxHeartbeats 4000000 in
theorem wrapAt {w:World} {S:Nat→Prop} {pb:Nat} {x:Value} {k j:Nat} {er:Nat→Addr} {eb:Nat→Array Value×TypeId} (hC:Rep w S .nilIface (dC er eb)) (hI:Inj er) (hp:Rep w S (.pointer (some ⟨pb,0,none⟩)) (.ptr [.v x,.v (.iface 390 (.pointer (some (er k))))])) (h0:1≤k) (hk:k≤12) (h1:1≤j) (h2:j≤12) :
  Calls Tryz.prog 124 #[.iface 202 (.pointer (some ⟨pb,0,none⟩)),.iface 390 (.pointer (some (er j)))] w fun e w'=>Ret [] w S w' e (.bool (decide (k=j))) [] []:=by
 have hc:w.cell? ⟨pb,0+1,none⟩=some (.iface 390 (.pointer (some (er k)))):=by
  cases hp with
  | ptr u hb hS hcell hrep=>
   have h1:=(hrep 1 _ rfl).plain
   have h2:=hcell 1 (by simp)
   rw[h1]at h2
   simpa [World.cell?,hb]using h2
 by_cases h:k=j
 ·subst h
  rw[decide_eq_true rfl]
  exact(Er.is_wrap_same pb 0 _ w hc).mono fun e w' h=>ret_same h.1 h.2
 ·rw[decide_eq_false h]
  exact(Er.is_wrap_other pb 0 (er j) (er k) (eb k).1 (eb j).1 (eb k).2 (eb j).2 w hc (fun he=>h (hI k j h0 hk h1 h2 he)) (blk_of (hC.part _ (eO_mem er eb h0 hk))) (blk_of (hC.part _ (eO_mem er eb h1 h2)))).mono fun e w' h=>ret_same h.1 h.2
set_option maxHeartbeats 4000000 in
theorem codeFault {w:World} {S:Nat→Prop} {er:Nat→Addr} {eb:Nat→Array Value×TypeId} {k pb:Nat} {at':Int} (hC:Rep w S .nilIface (dC er eb)) (hI:Inj er) (h1:1≤k) (hk:k≤12) (hp:Rep w S (.pointer (some ⟨pb,0,none⟩)) (.ptr [.v (.int .i64 at'),.v (.iface 390 (.pointer (some (er k))))])) :
  Calls Tryz.prog 60 #[.iface 202 (.pointer (some ⟨pb,0,none⟩))] w fun e w'=>Ret [] w S w' e (.tuple #[.int .i64 k,.int .i64 at']) [] []:=by
 refine epG Tryz.func60 bd60 (args:=[.iface 202 (.pointer (some ⟨pb,0,none⟩))]) (G:=[(_,dC er eb),(_,.ptr [.v (.int .i64 at'),.v (.iface 390 (.pointer (some (er k))))])]) (by kernel_rfl) (.cons hC (.cons hp (.nil _ _))) ?_
 refine J_ptrl 1 rfl fun b off cs e fz ls he hl hc=>?_
 cases he
 obtain rfl:ls=[]:=List.eq_nil_of_length_eq_zero hl
 have hc0:cs[0]?=some (.int .i64 at'):=hc 0 _ rfl
 refine J_stp (stp_all 0 [0,1,2,3,4,5,6,7,8,9,10,11] rfl rfl) ?_
 refine J_glob 2 rfl (fun csg1 tyg1 fzg1 hglob1=>?_)
 refine J_glob 3 rfl (fun csg2 tyg2 fzg2 hglob2=>?_)
 refine J_glob 4 rfl (fun csg3 tyg3 fzg3 hglob3=>?_)
 refine J_glob 5 rfl (fun csg4 tyg4 fzg4 hglob4=>?_)
 refine J_glob 6 rfl (fun csg5 tyg5 fzg5 hglob5=>?_)
 refine J_glob 7 rfl (fun csg6 tyg6 fzg6 hglob6=>?_)
 refine J_glob 8 rfl (fun csg7 tyg7 fzg7 hglob7=>?_)
 refine J_glob 9 rfl (fun csg8 tyg8 fzg8 hglob8=>?_)
 refine J_glob 10 rfl (fun csg9 tyg9 fzg9 hglob9=>?_)
 refine J_glob 11 rfl (fun csg10 tyg10 fzg10 hglob10=>?_)
 refine J_glob 12 rfl (fun csg11 tyg11 fzg11 hglob11=>?_)
 refine J_glob 13 rfl (fun csg12 tyg12 fzg12 hglob12=>?_)
 try simp only[aQ]
 refine Zs [zR 0,zR 1] [] [zI 2 0,zI 3 0] ?_
 refine J_seq ?_
 refine Zs [zR 0,zR 1] [] [zB 8 false] ?_
 refine cF ?_
 refine J_skip ?_
 refine Zs [zR 0] [8] [zI 3 (-1)] ?_
 refine Zv [.wr 0 [] 0] [] [] (fun nu1=>[zP 4 (nu1 0)]) o0 (fun nu1=>[(nu1 0,.cells #[.pointer none] 202 (0,0))]) (fun nu1=>?_)
 refine J_seq (J_seq ?_)
 refine J_hide 0 rfl ?_
 try simp only[aQ]
 refine jT [(0,true),(1,true),(2,false)] [] ?_
 refine Ya [zR 0,zR 1] [] [zV 9 (.iface 202 (.pointer (sA pb 0))),zV 10 (.iface 229 (.pointer (sA (nu1 0) 0)))] ?_
 refine JR_call [] [0] 123 #[.iface 202 (.pointer (some (⟨pb,0,none⟩))),.iface 229 (.pointer (some (⟨nu1 0,0,none⟩)))] (some 11) (by kernel_rfl) (by kernel_rfl) (by decide) (fun w S M hP hG _=>?_)
 refine(asHit (hG.at 0 rfl) hP).mono ?_
 rintro e1 w1 hR
 refine⟨_,_,_,hR,?_⟩
 try simp only[aQ]
 refine JR_end ?_
 try simp only[aQ]
 refine cTt ?_
 try simp only[aQ]
 refine J_show 0 rfl ?_
 refine Zp [.rd 0 [.o 0 none] 0 0,zR 1,zR 2,.rd 3 [.r 0 (some (nI at'))] 0 0,zR 4] [11,9,10,4] [zI 3 at'] (oC hc0 oN) ?_
 refine J_seq ?_
 refine Zu [.rd 0 [.r 1 (some (.iface 390 (.pointer (some (er 1)))))] 0 0,.rd 1 [.r 2 (some (.iface 390 (.pointer (some (er 2)))))] 0 0,.rd 2 [.r 3 (some (.iface 390 (.pointer (some (er 3)))))] 0 0,.rd 3 [.r 4 (some (.iface 390 (.pointer (some (er 4)))))] 0 0,.rd 4 [.r 5 (some (.iface 390 (.pointer (some (er 5)))))] 0 0,.rd 5 [.r 6 (some (.iface 390 (.pointer (some (er 6)))))] 0 0,.rd 6 [.r 7 (some (.iface 390 (.pointer (some (er 7)))))] 0 0,.rd 7 [.r 8 (some (.iface 390 (.pointer (some (er 8)))))] 0 0,.rd 8 [.r 9 (some (.iface 390 (.pointer (some (er 9)))))] 0 0,.rd 9 [.r 10 (some (.iface 390 (.pointer (some (er 10)))))] 0 0,.rd 10 [.r 11 (some (.iface 390 (.pointer (some (er 11)))))] 0 0,.rd 11 [.r 12 (some (.iface 390 (.pointer (some (er 12)))))] 0 0,.wr 12 [] 0,zR 13,zR 14] [] [] (fun nu2=>[zS 28 (sA (nu2 0) 0) 12 12,zI 29 12,zI 30 0]) o0 (fun nu2=>[(nu2 0,.cells #[.iface 390 (.pointer (some (er 1))),.iface 390 (.pointer (some (er 2))),.iface 390 (.pointer (some (er 3))),.iface 390 (.pointer (some (er 4))),.iface 390 (.pointer (some (er 5))),.iface 390 (.pointer (some (er 6))),.iface 390 (.pointer (some (er 7))),.iface 390 (.pointer (some (er 8))),.iface 390 (.pointer (some (er 9))),.iface 390 (.pointer (some (er 10))),.iface 390 (.pointer (some (er 11))),.iface 390 (.pointer (some (er 12)))] 26 (0,0))]) (fun nu2=>(oC hglob1 (oC hglob2 (oC hglob3 (oC hglob4 (oC hglob5 (oC hglob6 (oC hglob7 (oC hglob8 (oC hglob9 (oC hglob10 (oC hglob11 (oC hglob12 oN))))))))))))) (fun nu2=>?_)
 refine J_block ?_
 refine J_data (size:=1) 1 (eEr er) [1,2,3,4,5,6,7,8,9,10,11,12] 12 rfl (by decide) (by intro x _;rfl) (by simp) ⟨.inl ⟨rfl,rfl⟩,⟨.inl ⟨rfl,rfl⟩,⟨.inl ⟨rfl,rfl⟩,⟨.inl ⟨rfl,rfl⟩,⟨.inl ⟨rfl,rfl⟩,⟨.inl ⟨rfl,rfl⟩,⟨.inl ⟨rfl,rfl⟩,⟨.inl ⟨rfl,rfl⟩,⟨.inl ⟨rfl,rfl⟩,⟨.inl ⟨rfl,rfl⟩,⟨.inl ⟨rfl,rfl⟩,⟨.inl ⟨rfl,rfl⟩,trivial⟩⟩⟩⟩⟩⟩⟩⟩⟩⟩⟩⟩ ?_
 refine J_loopx (fun i:Int=>[zV 0 (.iface 202 (.pointer (sA pb 0))),zI 2 0,zI 3 at',zS 28 (sA (nu2 0) 0) 12 12,zI 29 12,zI 30 i]) (fun i:Int=>[]) (fun i:Int=>[]) (fun i:Int=>[(.nilIface,(dC er eb)),(.pointer (sA pb 0),(D.ptr [D.v (nI at'),D.v (Value.iface 390 (Value.pointer (some (er k))))])),(.slice (sA (nu2 0) 0) ((List.map (eEr er) [1,2,3,4,5,6,7,8,9,10,11,12]).length) 12,(D.sl 1 (List.map (eEr er) [1,2,3,4,5,6,7,8,9,10,11,12])))]) (fun i:Int=>(12 - i).toNat) (fun i:Int=>(0≤i∧i<k)) 0 [0,2,3,28,29,30] [] [] [0,1,14] ?_ (by kernel_rfl) rfl rfl rfl ?_
 ·exact⟨by omega,by omega⟩
 rintro i ⟨hi0,hi⟩
 have hx:=row12 hi0 (by omega)
 refine J_read0 2 rfl i.toNat (map_at hx) (by kernel_rfl) (fun b1 off1 cs1 ty1 fz1 ha1 hrd1=>?_)
 cases ha1
 have hrd1_0:=rd0 (hrd1 0 _ rfl)
 try simp only[aQ]
 refine Zs [zR 0] [] [zB 31 (decide (i<12))] ?_
 refine J_seq ?_
 refine J_condT (decide (i<12)) (by kernel_rfl) (by kernel_rfl) (by simp;omega) ?_
 refine J_skip (J_seq (J_block ?_))
 refine Zt [zR 0,.rd 1 [] 0 2,.rd 2 [.r 13 (some (.iface 390 (.pointer (some (er (i.toNat+1))))))] 0 0,zR 3,zR 4] [31] [zI 5 i,zV 6 (.iface 390 (.pointer (some (er (i.toNat+1)))))] (oC hi0 (oC (show i<(↑(12:Nat):Int) from by omega) (oC hrd1_0 oN))) ?_
 refine jS [(0,true),(1,true),(2,false)] [] ?_
 refine Ya [zR 0,zR 1] [] [zV 35 (.iface 202 (.pointer (sA pb 0))),zV 36 (.iface 390 (.pointer (some (er (i.toNat+1)))))] ?_
 refine Yc 124 #[.iface 202 (.pointer (sA pb 0)),.iface 390 (.pointer (some (er (i.toNat+1))))] (some 37) fun w S hG=>?_
 refine(wrapAt (hG.at 0 rfl) hI (hG.at 1 rfl) h1 hk (by omega) (by omega)).mono ?_
 rintro e2 w2 hR
 refine⟨_,_,_,hR,?_⟩
 try simp only[aQ]
 refine JR_end ?_
 refine cC (t:=decide (k=i.toNat+1)) (fun hb=>?_) (fun hb=>?_)
 ·refine J_seq ?_
  refine Zp ([zR 0,.rd 1 [] 0 1]++Rds 2 5) [37] [zI 2 (i+1)] (oC (show IntKind.i64.wrap (i+1)=i+1 from wrap_i64 (by omega) (by omega)) oN) ?_
  refine Yr [[],[]] (.tuple #[nI (i+1),nI at']) fun a w s=>?_
  have e:i+1=k:=by
   have:=of_decide_eq_true hb
   omega
  rw[e]
  exact s.ret (by simp) [] [] rfl rfl
 ·refine J_skip ?_
  refine J_eb ?_
  refine Zp [.rd 0 [] 0 1,zR 1] [37] [zI 30 (i+1)] (oC (show IntKind.i64.wrap (i+1)=i+1 from wrap_i64 (by omega) (by omega)) oN) ?_
  refine J_backx (i+1) [0,2,3,28,29,30] [] [] [0,1,2] ?_ ?_ (by kernel_rfl) rfl rfl rfl
  ·have:=of_decide_eq_false hb
   exact⟨by omega,by omega⟩
  ·omega
set_option maxHeartbeats 4000000 in
theorem ptr_of_obj {w:World} {S:Nat→Prop} {b:Nat} {x y:Value} {ty:TypeId} {fz:Nat×Nat} (hx:x.oneCell'=true) (hy:y.oneCell'=true) (h:Rep w S (.pointer (some ⟨b,0,none⟩)) (.obj (.cells #[x,y] ty fz))):Rep w S (.pointer (some ⟨b,0,none⟩)) (.ptr [.v x,.v y]):=by
 cases h with
 | obj hb hS=>
  refine .ptr (fun j=>(#[x,y]:Array Value).getD j .nilIface) hb hS (fun j hj=>?_) fun j d hj=>?_
  ·match j,hj with
   | 0,_=>rfl
   | 1,_=>rfl
   | j+2,hj=>exact absurd hj (by simp)
  ·match j,hj with
   | 0,hj=>cases hj;exact .v hx
   | 1,hj=>cases hj;exact .v hy
   | j+2,hj=>simp at hj
end Go.Proofs.YtmkapocibaojdaaGreatDoor
end
section
namespace Go.Proofs.YtmkapocibaojdaaGreatDoor
open Go Go.Sx
def heavyOp (o:OpT):Bool:=decide (60<(o.key.size:Int))||decide (200<(o.text.size:Int))||decide (70<(o.dots.length:Int))
def heavyC (c:ComT):Int:=if 20<c.when.length∨20<c.ops.length then 1 else if c.ops.any heavyOp then 1 else 0
set_option maxHeartbeats 4000000 in
theorem heavyCommit {w0:World} {S:Nat→Prop} {a1 a2:Option Addr} {n1 c1 n2 c2:Nat} {c:ComT} (h1:Rep w0 S (.slice a1 n1 c1) (dInts c.when)) (h2:Rep w0 S (.slice a2 n2 c2) (.sl 7 (c.ops.map eOp))) :
  Calls Tryz.prog 15 #[.agg #[.slice a1 n1 c1,.int .i64 c.place,.slice a2 n2 c2]] w0 fun e w'=>Ret [] w0 S w' e (.int .i64 (heavyC c)) [] []:=by
 obtain rfl:=rep_ints_len h1
 have e2:=h2.slen
 rw[List.length_map]at e2
 subst e2
 refine epG Tryz.func15 bd15 (args:=[.agg #[.slice a1 c.when.length c1,.int .i64 c.place,.slice a2 c.ops.length c2]]) (G:=[(_,dInts c.when),(_,.sl 7 (c.ops.map eOp))]) (by kernel_rfl) (.cons h1 (.cons h2 (.nil _ _))) ?_
 refine Zv [.wr 0 [] 0,zR 1] [] [0] (fun nu1=>[zP 1 (nu1 0),zI 2 0]) o0 (fun nu1=>[(nu1 0,.cells #[.slice a1 c.when.length c1,nI c.place,.slice a2 c.ops.length c2] 35 (0,0))]) (fun nu1=>?_)
 refine J_seq ?_
 refine Zs ([zR 0,.rd 1 [.o 0 none] 0 0]++Rds 2 5++[.rd 5 [] 2 0,.rd 6 [.o 0 none] 2 0,.rd 7 [] 2 0,.rd 8 [] 2 0,.rd 9 [] 0 3]) [] [zB 13 (decide ((↑c.when.length:Int)>20)||decide ((↑c.ops.length:Int)>20))] ?_
 refine cC (t:=decide ((↑c.when.length:Int)>20)||decide ((↑c.ops.length:Int)>20)) (fun hbig=>?_) (fun hbig=>?_)
 ·refine J_seq ?_
  refine Za [zR 0] [13] [zI 2 1] ?_
  refine Yr [[]] (nI 1) fun a w s=>?_
  have e1:heavyC c=1:=by rw[heavyC,if_pos (by simp at hbig;omega)]
  rw[e1]
  exact s.ret (by simp) [] [] rfl rfl
 ·have hn:¬(20<c.when.length∨20<c.ops.length):=by simp at hbig;omega
  refine J_skip (J_seq ?_)
  refine Zs [zR 0] [13] [zI 3 0] ?_
  refine J_block ?_
  refine J_loopx (fun i:Int=>[zP 1 (nu1 0),zI 2 0,zI 3 i]) (fun i:Int=>[(nu1 0,.cells #[.slice a1 c.when.length c1,nI c.place,.slice a2 c.ops.length c2] 35 (0,0))]) (fun i:Int=>[]) (fun i:Int=>[(.slice a1 c.when.length c1,(dInts c.when)),(.slice a2 c.ops.length c2,(D.sl 7 (List.map eOp c.ops)))]) (fun i:Int=>(c.ops.length - i).toNat) (fun i:Int=>(0≤i∧i≤c.ops.length∧∀j:Nat,j<i.toNat→∀o,c.ops[j]?=some o→heavyOp o=false)) 0 [1,2,3] [0] [] [0,1] ?_ (by kernel_rfl) rfl rfl rfl ?_
  ·exact⟨by omega,by omega,by simp⟩
  rintro i ⟨hi0,hi,hno⟩
  refine J_seq ?_
  refine Zs [zR 0,zR 1,.rd 2 [.o 0 none] 0 0,zR 3,zR 4] [] [zB 18 (decide (i<(↑c.ops.length:Int)))] ?_
  refine cC (t:=decide (i<(↑c.ops.length:Int))) (fun hlt=>?_) (fun hlt=>?_)
  ·have hlt2:i<c.ops.length:=by simpa using hlt
   obtain⟨o,ho⟩:∃o,c.ops[i.toNat]?=some o:=⟨_,List.getElem?_eq_getElem (by omega)⟩
   refine J_read1 1 rfl i.toNat (map_at ho) (by kernel_rfl) (fun b1 off1 cs1 ty1 fz1 a1_0 c1_0 ha1 hrd1=>?_)
   cases ha1
   have hrd1_0:=rd0 (hrd1 0 _ rfl)
   have hrd1_1:=hrd1 1 _ rfl
   have hrd1_2:=hrd1 2 _ rfl
   have hrd1_3:=hrd1 3 _ rfl
   have hrd1_4:=hrd1 4 _ rfl
   have hrd1_5:=hrd1 5 _ rfl
   have hrd1_6:=hrd1 6 _ rfl
   try simp only[aQ]
   refine J_skip (J_seq (J_block ?_))
   refine Zt ([zR 0,.rd 1 [.o 0 none] 0 0,zR 2,.rd 3 [] 0 2,zR 4,.rd 5 [.r 0 (some (.string o.key))] 0 0]++Rds 6 9++[.rd 9 [] 2 0,.rd 10 [.o 0 none] 2 0,.rd 11 [] 2 0,.rd 12 [] 2 2,.rd 13 [] 2 0,.rd 14 [.r 0 (some (.string o.text))] 2 0,.rd 15 [] 2 0,.rd 16 [] 2 0,.rd 17 [] 0 3,zR 18,.rd 19 [] 2 0,.rd 20 [.o 0 none] 2 0,.rd 21 [] 2 0,.rd 22 [] 2 2,.rd 23 [] 2 0,.rd 24 [.r 0 (some (.slice (a1_0,c1_0).fst ((List.map eDot o.dots).length) c1_0))] 2 0,.rd 25 [] 2 0,.rd 26 [] 2 0,.rd 27 [] 0 3]) [18] [zB 48 (decide ((↑o.key.size:Int)>60)||decide ((↑o.text.size:Int)>200)||decide ((↑(List.map eDot o.dots).length:Int)>70))] (oC hi0 (oC hlt2 (oC hrd1_1 (oC (show(decide ((↑o.key.size:Int)>60))=false→0≤i from(fun _=>hi0)) (oC (show(decide ((↑o.key.size:Int)>60))=false→i<(↑c.ops.length:Int) from(fun _=>hlt2)) (oC (show(decide ((↑o.key.size:Int)>60))=false→cs1[off1+i.toNat*7+(3:Nat)]?=some (Value.string o.text) from(fun _=>hrd1_3)) (oC (show(decide ((↑o.key.size:Int)>60)||decide ((↑o.text.size:Int)>200))=false→0≤i from(fun _=>hi0)) (oC (show(decide ((↑o.key.size:Int)>60)||decide ((↑o.text.size:Int)>200))=false→i<(↑c.ops.length:Int) from(fun _=>hlt2)) (oC (show(decide ((↑o.key.size:Int)>60)||decide ((↑o.text.size:Int)>200))=false→cs1[off1+i.toNat*7+(6:Nat)]?=some (Value.slice (a1_0,c1_0).fst (List.map eDot o.dots).length (a1_0,c1_0).snd) from(fun _=>hrd1_6)) oN))))))))) ?_
   refine cC (t:=decide ((↑o.key.size:Int)>60)||decide ((↑o.text.size:Int)>200)||decide ((↑(List.map eDot o.dots).length:Int)>70)) (fun hb=>?_) (fun hb=>?_)
   ·refine J_seq ?_
    refine Za [zR 0] [48] [zI 2 1] ?_
    refine Yr [[]] (nI 1) fun a w s=>?_
    have e1:heavyC c=1:=by
     rw[heavyC,if_neg hn,if_pos (List.any_eq_true.2 ⟨o,List.mem_of_getElem? ho,?_⟩)]
     simpa [heavyOp]using hb
    rw[e1]
    exact s.ret (by simp) [] [] rfl rfl
   ·refine J_skip ?_
    refine J_eb ?_
    refine Zp [zR 0,.rd 1 [] 0 1,zR 2] [48] [zI 3 (i+1)] (oC (show IntKind.i64.wrap (i+1)=i+1 from wrap_i64 (by omega) (by omega)) oN) ?_
    refine J_backx (i+1) [1,2,3] [0] [] [0,1] ?_ ?_ (by kernel_rfl) rfl rfl rfl
    ·refine⟨by omega,by omega,fun j hj o' ho'=>?_⟩
     by_cases hji:j=i.toNat
     ·subst hji
      rw[ho]at ho'
      cases ho'
      simpa [heavyOp]using hb
     ·exact hno j (by omega) o' ho'
    ·omega
  ·refine J_exit rfl ?_
   refine Zs [zR 0] [18,1,3] [] ?_
   refine Yr [[]] (nI 0) fun a w s=>?_
   have e1:heavyC c=0:=by
    rw[heavyC,if_neg hn,if_neg]
    rw[Bool.not_eq_true,List.any_eq_false]
    intro o ho
    obtain⟨j,hj⟩:=List.getElem?_of_mem ho
    have hjl:=(List.getElem?_eq_some_iff.1 hj).1
    simp[hno j (by simp at hlt;omega) o hj]
   rw[e1]
   exact s.ret (by simp) [] [] rfl rfl
end Go.Proofs.YtmkapocibaojdaaGreatDoor
end
section
namespace Go.Proofs.YtmkapocibaojdaaGreatDoor
open Go Go.Sx
def opErrAt (l:List OpT) (places:Int) (i:Nat):Nat:=
 match l[i]? with
 | none=>0
 | some o=>if opErr o places≠0 then opErr o places else match i,l[i - 1]? with
   | _+1,some p=>if o.no≤p.no then 3 else 0
   | _,_=>0
structure FT where
 code:Nat
 at':Int
def opsFault (l:List OpT) (places:Int):Nat→Nat→FT
 | 0,_=>⟨0,-1⟩
 | n+1,i=>if opErrAt l places i=0 then opsFault l places n (i+1)else ⟨opErrAt l places i,i⟩
def comFault (c:ComT):FT:=
 if vecErr c.when≠0 then ⟨vecErr c.when,-1⟩
 else if c.place<0∨c.when.length≤c.place∨12<c.ops.length then ⟨2,-1⟩
 else if c.when[c.place.toNat]?=some 0 then ⟨2,-1⟩
 else if c.ops.length=0 then ⟨3,-1⟩
 else opsFault c.ops c.when.length c.ops.length 0
theorem opsFault_from {l:List OpT} {places:Int}:∀(n k i:Nat),k≤i→(∀j,k≤j→j<i→opErrAt l places j=0)→(i=k+n→opsFault l places n k=⟨0,-1⟩)∧(i<k+n→opErrAt l places i≠0→opsFault l places n k=⟨opErrAt l places i,i⟩)
 | 0,k,i,hk,_=>⟨fun _=>rfl,fun h=>by omega⟩
 | n+1,k,i,hk,h=>by
  rcases Nat.eq_or_lt_of_le hk with rfl|hlt
  ·refine⟨fun he=>by omega,fun _ hne=>?_⟩
   rw[opsFault,if_neg hne]
  ·obtain⟨h1,h2⟩:=opsFault_from n (k+1) i hlt fun j hj1 hj2=>h j (by omega) hj2
   rw[opsFault,if_pos (h k (Nat.le_refl _) hlt)]
   exact⟨fun he=>h1 (by omega),fun he=>h2 (by omega)⟩
theorem opErr_le (o:OpT) (p:Int):opErr o p≤12:=by
 unfold opErr
 repeat' split
 all_goals omega
theorem opErrAt_le (l:List OpT) (p:Int) (i:Nat):opErrAt l p i≤12:=by
 unfold opErrAt
 split
 ·omega
 ·rename_i o _
  have:=opErr_le o p
  split
  ·exact this
  ·split
   ·split <;> omega
   ·omega
theorem opsFault_code (l:List OpT) (p:Int):∀n k,(opsFault l p n k).code≤12
 | 0,_=>by simp[opsFault]
 | n+1,k=>by
  unfold opsFault
  split
  ·exact opsFault_code l p n (k+1)
  ·exact opErrAt_le l p k
theorem opErrAt_own {l:List OpT} {p:Int} {i:Nat} {o:OpT} (h:l[i]?=some o) (he:opErr o p≠0):opErrAt l p i=opErr o p:=by
 unfold opErrAt
 simp only[h,if_pos he]
theorem opErrAt_first {l:List OpT} {p:Int} {o:OpT} (h:l[0]?=some o) (he:opErr o p=0):opErrAt l p 0=0:=by
 unfold opErrAt
 simp[h,he]
theorem opErrAt_next {l:List OpT} {p:Int} {i:Nat} {o q:OpT} (h:l[i+1]?=some o) (hq:l[i]?=some q) (he:opErr o p=0):opErrAt l p (i+1)=if o.no≤q.no then 3 else 0:=by
 unfold opErrAt
 simp[h,hq,he]
abbrev fA (f:FT):Value:=.agg #[.int .i64 f.code,.int .i64 f.at']
set_option maxHeartbeats 4000000 in
theorem rVecErr {w:World} {S:Nat→Prop} {a:Option Addr} {n c:Nat} {xs:List Int} (ha:Rep w S (.slice a n c) (dInts xs)) (hl:xs.length≤1000000) :
  Calls Tryz.prog 117 #[.slice a n c] w fun e w'=>Ret [] w S w' e (.int .i64 (vecErr xs)) [] []:=by
 obtain rfl:=rep_ints_len ha
 refine epG Tryz.func117 bd117 (args:=[.slice a xs.length c]) (G:=[(_,dInts xs)]) (by kernel_rfl) (.cons ha (.nil _ _)) ?_
 refine Zs [zR 0] [] [zI 2 0] ?_
 refine J_seq ?_
 refine Zs (Rds 0 4++[.rd 4 [] 2 0,.rd 5 [] 2 0,.rd 6 [] 2 0,.rd 7 [] 0 3]) [] [zB 11 (decide ((↑xs.length:Int)<1)||decide ((↑xs.length:Int)>6))] ?_
 refine cC (t:=decide ((↑xs.length:Int)<1)||decide ((↑xs.length:Int)>6)) (fun hn=>?_) (fun hn=>?_)
 ·refine J_seq ?_
  refine Za [zR 0] [11] [zI 2 3] ?_
  refine Yr [[]] (nI 3) fun a w s=>?_
  have e1:vecErr xs=3:=by rw[vecErr,if_pos (by simp at hn;omega)]
  rw[e1]
  exact s.ret (by simp) [] [] rfl rfl
 ·have hn2:¬(xs.length<1∨6<xs.length):=by simp at hn;omega
  refine J_skip (J_seq ?_)
  refine Zs [zR 0] [11] [zI 3 0] ?_
  refine J_block ?_
  refine J_loopx (fun i:Int=>[zS 0 a xs.length c,zI 2 0,zI 3 i]) (fun i:Int=>[]) (fun i:Int=>[]) (fun i:Int=>[(.slice a xs.length c,(dInts xs))]) (fun i:Int=>(xs.length - i).toNat) (fun i:Int=>(0≤i∧i≤xs.length∧∀j:Nat,j<i.toNat→∀t,xs[j]?=some t→badT t=false)) 0 [0,2,3] [] [] [0] ?_ (by kernel_rfl) rfl rfl rfl ?_
  ·exact⟨by simp,by omega,by simp⟩
  rintro i ⟨hi0,hi,hno⟩
  refine J_seq ?_
  refine Zs (Rds 0 4) [] [zB 15 (decide (i<(↑xs.length:Int)))] ?_
  refine cC (t:=decide (i<(↑xs.length:Int))) (fun hlt=>?_) (fun hlt=>?_)
  ·have hlt2:i<xs.length:=by simpa using hlt
   obtain⟨x,hx⟩:∃x,xs[i.toNat]?=some x:=⟨_,List.getElem?_eq_getElem (by omega)⟩
   refine J_read0 0 rfl i.toNat (map_at hx) (by kernel_rfl) (fun b1 off1 cs1 ty1 fz1 ha1 hrd1=>?_)
   cases ha1
   have hrd1_0:=rd0 (hrd1 0 _ rfl)
   try simp only[aQ]
   refine J_skip (J_seq (J_block ?_))
   refine Zt [zR 0,zR 1,.rd 2 [] 0 2,.rd 3 [.r 0 (some (nI x))] 0 0,zR 4,zR 5,.rd 6 [] 2 0,.rd 7 [] 2 0,.rd 8 [] 2 2,.rd 9 [.r 0 (some (nI x))] 2 0,.rd 10 [] 2 0,.rd 11 [] 0 3] [15] [zB 29 (decide (x<0)||decide (x>1099511627776))] (oC hi0 (oC hlt2 (oC hrd1_0 (oC (show(decide (x<0))=false→0≤i from(fun _=>hi0)) (oC (show(decide (x<0))=false→i<(↑xs.length:Int) from(fun _=>hlt2)) (oC (show(decide (x<0))=false→cs1[off1+i.toNat*1]?=some (nI x) from(fun _=>hrd1_0)) oN)))))) ?_
   refine cC (t:=decide (x<0)||decide (x>1099511627776)) (fun hb=>?_) (fun hb=>?_)
   ·refine J_seq ?_
    refine Za [zR 0] [29] [zI 2 2] ?_
    refine Yr [[]] (nI 2) fun a w s=>?_
    have e1:vecErr xs=2:=by rw[vecErr,if_neg hn2,if_pos (List.any_eq_true.2 ⟨x,List.mem_of_getElem? hx,hb⟩)]
    rw[e1]
    exact s.ret (by simp) [] [] rfl rfl
   ·refine J_skip ?_
    refine J_eb ?_
    refine Zp [zR 0,.rd 1 [] 0 1,zR 2] [29] [zI 3 (i+1)] (oC (show IntKind.i64.wrap (i+1)=i+1 from wrap_i64 (by omega) (by omega)) oN) ?_
    refine J_backx (i+1) [0,2,3] [] [] [0] ?_ ?_ (by kernel_rfl) rfl rfl rfl
    ·refine⟨by omega,by omega,fun j hj t ht=>?_⟩
     by_cases hji:j=i.toNat
     ·subst hji
      rw[hx]at ht
      cases ht
      exact hb
     ·exact hno j (by omega) t ht
    ·omega
  ·refine J_exit rfl ?_
   refine Zs [zR 0] [15,0,3] [] ?_
   refine Yr [[]] (nI 0) fun a w s=>?_
   have e1:vecErr xs=0:=by
    rw[vecErr,if_neg hn2,if_neg]
    rw[Bool.not_eq_true,List.any_eq_false]
    intro t ht
    obtain⟨j,hj⟩:=List.getElem?_of_mem ht
    have hjl:=(List.getElem?_eq_some_iff.1 hj).1
    simp[hno j (by simp at hlt;omega) t hj]
   rw[e1]
   exact s.ret (by simp) [] [] rfl rfl
set_option maxHeartbeats 4000000 in
theorem rBare {w:World} {S:Nat→Prop} {c:Int}:Calls Tryz.prog 116 #[.int .i64 c] w fun e w'=>Ret [] w S w' e (.agg #[.int .i64 c,.int .i64 (-1)]) [] []:=by
 refine epG Tryz.func116 bd116 (args:=[.int .i64 c]) (G:=[]) (by kernel_rfl) (AllG.nil w S) ?_
 refine Zv [.wr 0 [] 0] [] [] (fun nu1=>[zP 2 (nu1 0)]) o0 (fun nu1=>[(nu1 0,.cells #[nI 0,nI 0] 105 (0,0))]) (fun nu1=>?_)
 refine Zv [zR 0,zR 1,.wr 2 [.o 0 none,.o 0 none] 0] [(2,[0])] [0] (fun _=>[]) (fun _=>[(0,.cells #[nI c,nI (-1)] 105 (0,0))]) o0 (fun _=>?_)
 refine Yr [[.o 0 none,.o 0 none]] (.agg #[nI c,nI (-1)]) fun a w s=>?_
 exact s.ret (by simp) [] [] rfl rfl
set_option maxHeartbeats 4000000 in
theorem rFine {w:World} {S:Nat→Prop}:Calls Tryz.prog 120 #[] w fun e w'=>Ret [] w S w' e (.agg #[.int .i64 0,.int .i64 (-1)]) [] []:=by
 refine epG Tryz.func120 bd120 (args:=[]) (G:=[]) (by kernel_rfl) (AllG.nil w S) ?_
 refine Zv [.wr 0 [] 0] [] [] (fun nu1=>[zP 0 (nu1 0)]) o0 (fun nu1=>[(nu1 0,.cells #[nI 0,nI 0] 105 (0,0))]) (fun nu1=>?_)
 refine Zv [zR 0,.wr 1 [.o 0 none,.o 0 none] 0] [(1,[0])] [] (fun _=>[]) (fun _=>[(0,.cells #[nI 0,nI (-1)] 105 (0,0))]) o0 (fun _=>?_)
 refine Yr [[.o 0 none,.o 0 none]] (.agg #[nI 0,nI (-1)]) fun a w s=>?_
 exact s.ret (by simp) [] [] rfl rfl
set_option maxHeartbeats 2000000 in
theorem commitFault {w:World} {S:Nat→Prop} {a1 a2:Option Addr} {n1 c1 n2 c2:Nat} {c:ComT} (h1:Rep w S (.slice a1 n1 c1) (dInts c.when)) (h2:Rep w S (.slice a2 n2 c2) (.sl 7 (c.ops.map eOp))) (hl1:c.when.length≤1000000) (hl2:c.ops.length≤1000000) :
  Calls Tryz.prog 118 #[.agg #[.slice a1 n1 c1,.int .i64 c.place,.slice a2 n2 c2]] w fun e w'=>Ret [] w S w' e (fA (comFault c)) [] []:=by
 obtain rfl:=rep_ints_len h1
 have e2:=h2.slen
 rw[List.length_map]at e2
 subst e2
 refine epG Tryz.func118 bd118 (args:=[.agg #[.slice a1 c.when.length c1,.int .i64 c.place,.slice a2 c.ops.length c2]]) (G:=[(_,dInts c.when),(_,.sl 7 (c.ops.map eOp))]) (by kernel_rfl) (.cons h1 (.cons h2 (.nil _ _))) ?_
 refine Zv [.wr 0 [] 0,.wr 1 [] 0] [] [0] (fun nu1=>[zP 1 (nu1 0),zP 2 (nu1 1)]) o0 (fun nu1=>[(nu1 0,.cells #[.slice a1 c.when.length c1,nI c.place,.slice a2 c.ops.length c2] 35 (0,0)),(nu1 1,.cells #[nI 0,nI 0] 105 (0,0))]) (fun nu1=>?_)
 refine jS [(0,true),(1,true),(2,false),(3,true)] [] ?_
 refine Ya [zR 0,.rd 1 [.o 0 none] 0 0] [] [zS 7 a1 c.when.length c1] ?_
 refine Yc 117 #[.slice a1 c.when.length c1] (some 8) fun w S hG=>?_
 refine(rVecErr (hG.at 0 rfl) hl1).mono ?_
 rintro e1 w1 hR
 refine⟨_,_,_,hR,?_⟩
 by_cases hv:vecErr c.when=0
 ·try simp only[aQ]
  refine Ya [zR 3] [8,7] [zI 3 ((↑(vecErr c.when):Int))] ?_
  refine JR_end (J_seq ?_)
  refine Zt [zR 0,.rd 1 [] 0 7] [] [zB 10 false] (oC (show decide ((↑(vecErr c.when):Int)>(0:Int))=false from by simp;omega) oN) ?_
  refine cF ?_
  refine J_skip (J_seq ?_)
  refine Zs [zR 0,.rd 1 [.o 0 none] 0 0,zR 2,zR 3,.rd 4 [] 2 0,.rd 5 [.o 0 none] 2 0,.rd 6 [] 2 0,.rd 7 [.o 0 none] 2 0,.rd 8 [] 2 0,.rd 9 [] 2 0,.rd 10 [] 0 3,zR 11,.rd 12 [] 2 0,.rd 13 [.o 0 none] 2 0,.rd 14 [] 2 0,.rd 15 [] 2 0,.rd 16 [] 0 3] [10,3] [zB 29 (decide (c.place<0)||decide (c.place≥(↑c.when.length:Int))||decide ((↑c.ops.length:Int)>12))] ?_
  refine cC (t:=decide (c.place<0)||decide (c.place≥(↑c.when.length:Int))||decide ((↑c.ops.length:Int)>12)) (fun hb=>?_) (fun hb=>?_)
  ·have e:comFault c=⟨2,-1⟩:=by rw[comFault,if_neg (by simp[hv]),if_pos (by simp at hb;omega)]
   refine jS [(0,false),(1,false)] [] ?_
   refine Yc 116 #[nI 2] (some 30) fun w S hG=>?_
   refine(rBare (w:=w) (S:=S)).mono ?_
   rintro e1 w1 hR
   refine⟨_,_,_,hR,?_⟩
   try simp only[aQ]
   refine Ym [.wr 1 [.o 1 none,.o 1 none] 0] [30,29] (fun _=>[]) (fun _=>[(1,.cells #[nI 2,nI (-1)] 105 (0,0))]) o0 [] (fun _=>?_)
   refine JR_end ?_
   refine Yr [[.o 1 none,.o 1 none]] (.agg #[nI 2,nI (-1)]) fun a w s=>?_
   rw[e]
   exact s.ret (by simp) [] [] rfl rfl
  have hb2:¬(c.place<0∨c.when.length≤c.place∨12<c.ops.length):=by simp at hb;omega
  obtain⟨t,ht⟩:∃t,c.when[c.place.toNat]?=some t:=⟨_,List.getElem?_eq_getElem (by omega)⟩
  refine J_read0 0 rfl c.place.toNat (map_at ht) (by kernel_rfl) (fun b1 off1 cs1 ty1 fz1 ha1 hrd1=>?_)
  cases ha1
  have hrd1_0:=rd0 (hrd1 0 _ rfl)
  try simp only[aQ]
  refine J_skip (J_seq ?_)
  refine Zt [zR 0,.rd 1 [.o 0 none] 0 0,zR 2,.rd 3 [.o 0 none] 0 0,.rd 4 [] 0 2,.rd 5 [.r 0 (some (nI t))] 0 0,zR 6] [29] [zB 37 (t==0)] (oC (show 0≤c.place from by omega) (oC (show c.place<(↑c.when.length:Int) from by omega) (oC hrd1_0 oN))) ?_
  refine cC (t:=t==0) (fun h0=>?_) (fun h0=>?_)
  ·have h00:t=0:=by simpa using h0
   have e:comFault c=⟨2,-1⟩:=by rw[comFault,if_neg (by simp[hv]),if_neg hb2,if_pos (by rw[ht,h00])]
   refine jS [(0,false),(1,false)] [] ?_
   refine Yc 116 #[nI 2] (some 38) fun w S hG=>?_
   refine(rBare (w:=w) (S:=S)).mono ?_
   rintro e1 w1 hR
   refine⟨_,_,_,hR,?_⟩
   try simp only[aQ]
   refine Ym [.wr 1 [.o 1 none,.o 1 none] 0] [38,37] (fun _=>[]) (fun _=>[(1,.cells #[nI 2,nI (-1)] 105 (0,0))]) o0 [] (fun _=>?_)
   refine JR_end ?_
   refine Yr [[.o 1 none,.o 1 none]] (.agg #[nI 2,nI (-1)]) fun a w s=>?_
   rw[e]
   exact s.ret (by simp) [] [] rfl rfl
  have h00:¬c.when[c.place.toNat]?=some 0:=by rw[ht];simpa using h0
  refine J_skip (J_seq ?_)
  refine Zs [zR 0,.rd 1 [.o 0 none] 0 0,zR 2,zR 3] [37] [zB 42 ((↑c.ops.length:Int)==0)] ?_
  refine cC (t:=(↑c.ops.length:Int)==0) (fun hz=>?_) (fun hz=>?_)
  ·have e:comFault c=⟨3,-1⟩:=by rw[comFault,if_neg (by simp[hv]),if_neg hb2,if_neg h00,if_pos (by simp at hz;simp[hz])]
   refine jS [(0,false),(1,false)] [] ?_
   refine Yc 116 #[nI 3] (some 43) fun w S hG=>?_
   refine(rBare (w:=w) (S:=S)).mono ?_
   rintro e1 w1 hR
   refine⟨_,_,_,hR,?_⟩
   try simp only[aQ]
   refine Ym [.wr 1 [.o 1 none,.o 1 none] 0] [43,42] (fun _=>[]) (fun _=>[(1,.cells #[nI 3,nI (-1)] 105 (0,0))]) o0 [] (fun _=>?_)
   refine JR_end ?_
   refine Yr [[.o 1 none,.o 1 none]] (.agg #[nI 3,nI (-1)]) fun a w s=>?_
   rw[e]
   exact s.ret (by simp) [] [] rfl rfl
  have hz2:¬c.ops.length=0:=by simp at hz;simp[hz]
  have e:comFault c=opsFault c.ops c.when.length c.ops.length 0:=by rw[comFault,if_neg (by simp[hv]),if_neg hb2,if_neg h00,if_neg hz2]
  rw[e]
  refine J_skip (J_seq ?_)
  refine Zs [zR 0] [42] [zI 4 0] ?_
  refine J_block ?_
  refine J_loopx (fun i:Int=>[zP 1 (nu1 0),zP 2 (nu1 1),zI 4 i]) (fun i:Int=>[(nu1 0,.cells #[.slice (sA b1 off1) c.when.length c1,nI c.place,.slice a2 c.ops.length c2] 35 (0,0)),(nu1 1,.cells #[nI 0,nI 0] 105 (0,0))]) (fun i:Int=>[]) (fun i:Int=>[(.slice (sA b1 off1) c.when.length c1,(dInts c.when)),(.slice a2 c.ops.length c2,(D.sl 7 (List.map eOp c.ops)))]) (fun i:Int=>(c.ops.length - i).toNat) (fun i:Int=>(0≤i∧i≤c.ops.length∧∀j:Nat,0≤j→j<i.toNat→opErrAt c.ops c.when.length j=0)) 0 [1,2,4] [0,1] [] [0,1] ?_ (by kernel_rfl) rfl rfl rfl ?_
  ·exact⟨by simp,by omega,by simp⟩
  rintro i ⟨hi0,hi,hno⟩
  refine J_seq ?_
  refine Zs [zR 0,zR 1,.rd 2 [.o 0 none] 0 0,zR 3,zR 4] [] [zB 48 (decide (i<(↑c.ops.length:Int)))] ?_
  refine cC (t:=decide (i<(↑c.ops.length:Int))) (fun hlt=>?_) (fun hlt=>?_)
  ·have hlt2:i<c.ops.length:=by simpa using hlt
   obtain⟨o,ho⟩:∃o,c.ops[i.toNat]?=some o:=⟨_,List.getElem?_eq_getElem (by omega)⟩
   have hit:∀k:Nat,opErrAt c.ops c.when.length i.toNat=k→k≠0→opsFault c.ops c.when.length c.ops.length 0=⟨k,i⟩:=fun k hk h0=>by
    rw[(opsFault_from c.ops.length 0 i.toNat (Nat.zero_le _) hno).2 (by omega) (by rw[hk];exact h0),hk]
    congr 1
    omega
   have next:opErrAt c.ops c.when.length i.toNat=0→0≤i+1∧i+1≤c.ops.length∧∀j:Nat,0≤j→j<(i+1).toNat→opErrAt c.ops c.when.length j=0:=fun h=>⟨by omega,by omega,fun j h0 hj=>by
    by_cases hji:j=i.toNat
    ·rw[hji];exact h
    ·exact hno j h0 (by omega)⟩
   refine J_read1 1 rfl i.toNat (map_at ho) (by kernel_rfl) (fun b2 off2 cs2 ty2 fz2 a2_0 c2_0 ha2 hrd2=>?_)
   cases ha2
   have hrd2_0:=rd0 (hrd2 0 _ rfl)
   have hrd2_1:=hrd2 1 _ rfl
   have hrd2_2:=hrd2 2 _ rfl
   have hrd2_3:=hrd2 3 _ rfl
   have hrd2_4:=hrd2 4 _ rfl
   have hrd2_5:=hrd2 5 _ rfl
   have hrd2_6:=hrd2 6 _ rfl
   by_cases hi1:i=0
   ·have hz0:i.toNat=0:=by omega
    try simp only[aQ]
    refine J_skip (J_seq (J_block ?_))
    refine jS [(0,true),(1,true),(2,true),(3,true),(4,true),(5,true),(6,true),(7,true),(8,false),(9,true)] [] ?_
    refine Yp [zR 0,.rd 1 [.o 0 none] 0 0,zR 2,.rd 3 [] 0 2,.rd 4 [.r 1 (some (nI o.no)),.r 1 (some (.string o.key)),.r 1 (some (nI o.kind)),.r 1 (some (.string o.text)),.r 1 (some (nI o.n)),.r 1 (some (.bool o.remove)),.r 1 (some (.slice (a2_0,c2_0).fst ((List.map eDot o.dots).length) c2_0))] 0 0,zR 5,.rd 6 [.o 0 none] 0 0,zR 7] [48] [zV 55 (.agg #[nI o.no,.string o.key,nI o.kind,.string o.text,nI o.n,.bool o.remove,.slice (a2_0,c2_0).fst ((List.map eDot o.dots).length) c2_0]),zI 58 (↑c.when.length:Int)] (oC hi0 (oC hlt2 (oC hrd2_0 (oC hrd2_1 (oC hrd2_2 (oC hrd2_3 (oC hrd2_4 (oC hrd2_5 (oC hrd2_6 oN))))))))) ?_
    refine Yc 27 #[.agg #[nI o.no,.string o.key,nI o.kind,.string o.text,nI o.n,.bool o.remove,.slice (a2_0,c2_0).fst ((List.map eDot o.dots).length) c2_0],nI (↑c.when.length:Int)] (some 59) fun w S hG=>?_
    refine(opError (o:=o) (hG.at 2 rfl)).mono ?_
    rintro e1 w1 hR
    refine⟨_,_,_,hR,?_⟩
    by_cases he:opErr o c.when.length=0
    ·try simp only[aQ]
     refine Ya [zR 9] [59,55,58] [zI 5 ((↑(opErr o (↑c.when.length:Int)):Int))] ?_
     refine JR_end (J_seq ?_)
     refine Zt [zR 0,.rd 1 [] 0 6,zR 2,zR 3,.rd 4 [] 0 7,zR 5,zR 6,.rd 7 [] 1 0,.rd 8 [] 1 0,.rd 9 [] 1 0,.rd 10 [] 1 0,.rd 11 [] 1 0,.rd 12 [] 1 0,.rd 13 [] 1 0,.rd 14 [] 1 0,.rd 15 [] 1 0,.rd 16 [] 1 0,.rd 17 [] 1 0,.rd 18 [] 1 0,.rd 19 [] 1 0,.rd 20 [] 1 0,zR 21] [] [zB 81 false] (oC (show((↑(opErr o (↑c.when.length:Int)):Int)==(0:Int))=true from by simp;omega) (oC (show decide (i>(0:Int))=false from by simp;omega) oN)) ?_
     refine cF ?_
     refine J_skip ?_
     refine Zt [zR 0,.rd 1 [] 0 7] [81] [zB 83 false] (oC (show decide ((↑(opErr o (↑c.when.length:Int)):Int)>(0:Int))=false from by simp;omega) oN) ?_
     refine cF ?_
     refine J_skip (J_eb ?_)
     refine Zp [zR 0,.rd 1 [] 0 1,zR 2] [83] [zI 4 (i+1)] (oC (show IntKind.i64.wrap (i+1)=i+1 from wrap_i64 (by omega) (by omega)) oN) ?_
     refine J_backx (i+1) [1,2,4] [0,1] [] [0,1] ?_ ?_ (by kernel_rfl) rfl rfl rfl
     ·exact next (by rw[hz0]at ho ⊢;exact opErrAt_first ho he)
     ·omega
    ·try simp only[aQ]
     refine Ya [zR 9] [59,55,58] [zI 5 ((↑(opErr o (↑c.when.length:Int)):Int))] ?_
     refine JR_end (J_seq ?_)
     refine Zt [zR 0,.rd 1 [] 0 7,zR 2,.rd 3 [] 1 0,.rd 4 [] 1 0,zR 5,zR 6,.rd 7 [] 1 0,.rd 8 [] 1 0,.rd 9 [] 1 0,.rd 10 [] 1 0,.rd 11 [] 1 0,.rd 12 [] 1 0,.rd 13 [] 1 0,.rd 14 [] 1 0,.rd 15 [] 1 0,.rd 16 [] 1 0,.rd 17 [] 1 0,.rd 18 [] 1 0,.rd 19 [] 1 0,.rd 20 [] 1 0,zR 21] [] [zB 81 false] (oC (show((↑(opErr o (↑c.when.length:Int)):Int)==(0:Int))=false from by simp;omega) oN) ?_
     refine cF ?_
     refine J_skip ?_
     refine Zt [zR 0,.rd 1 [] 0 6] [81] [zB 83 true] (oC (show decide ((↑(opErr o (↑c.when.length:Int)):Int)>(0:Int))=true from by simp;omega) oN) ?_
     refine cTt ?_
     refine Zv (Rds 0 3++[.wr 3 [.o 1 none,.o 1 none] 0]) [(3,[1])] [83] (fun _=>[]) (fun _=>[(1,.cells #[nI ((↑(opErr o (↑c.when.length:Int)):Int)),nI i] 105 (0,0))]) o0 (fun _=>?_)
     refine Yr [[.o 1 none,.o 1 none]] (.agg #[nI ((↑(opErr o (↑c.when.length:Int)):Int)),nI i]) fun a w s=>?_
     rw[hit _ (opErrAt_own ho he) he]
     exact s.ret (by simp) [] [] rfl rfl
   ·obtain⟨q,hq⟩:∃q,c.ops[(i - 1).toNat]?=some q:=⟨_,List.getElem?_eq_getElem (by omega)⟩
    have hii:i.toNat=(i - 1).toNat+1:=by omega
    refine J_again1 1 rfl 1 rfl ((i - 1).toNat) (map_at hq) (by kernel_rfl) (fun a3_0 c3_0 hrd3=>?_)
    have hrd3_0:=rd0 (hrd3 0 _ rfl)
    have hrd3_1:=hrd3 1 _ rfl
    have hrd3_2:=hrd3 2 _ rfl
    have hrd3_3:=hrd3 3 _ rfl
    have hrd3_4:=hrd3 4 _ rfl
    have hrd3_5:=hrd3 5 _ rfl
    have hrd3_6:=hrd3 6 _ rfl
    try simp only[aQ]
    refine J_skip (J_seq (J_block ?_))
    refine jS [(0,true),(1,true),(2,true),(3,true),(4,true),(5,true),(6,true),(7,true),(8,false),(9,true)] [] ?_
    refine Yp [zR 0,.rd 1 [.o 0 none] 0 0,zR 2,.rd 3 [] 0 2,.rd 4 [.r 1 (some (nI o.no)),.r 1 (some (.string o.key)),.r 1 (some (nI o.kind)),.r 1 (some (.string o.text)),.r 1 (some (nI o.n)),.r 1 (some (.bool o.remove)),.r 1 (some (.slice (a2_0,c2_0).fst ((List.map eDot o.dots).length) c2_0))] 0 0,zR 5,.rd 6 [.o 0 none] 0 0,zR 7] [48] [zV 55 (.agg #[nI o.no,.string o.key,nI o.kind,.string o.text,nI o.n,.bool o.remove,.slice (a2_0,c2_0).fst ((List.map eDot o.dots).length) c2_0]),zI 58 (↑c.when.length:Int)] (oC hi0 (oC hlt2 (oC hrd2_0 (oC hrd2_1 (oC hrd2_2 (oC hrd2_3 (oC hrd2_4 (oC hrd2_5 (oC hrd2_6 oN))))))))) ?_
    refine Yc 27 #[.agg #[nI o.no,.string o.key,nI o.kind,.string o.text,nI o.n,.bool o.remove,.slice (a2_0,c2_0).fst ((List.map eDot o.dots).length) c2_0],nI (↑c.when.length:Int)] (some 59) fun w S hG=>?_
    refine(opError (o:=o) (hG.at 2 rfl)).mono ?_
    rintro e1 w1 hR
    refine⟨_,_,_,hR,?_⟩
    by_cases he:opErr o c.when.length=0
    ·have hn:=opErrAt_next (p:=c.when.length) (by rw[←hii];exact ho) hq he
     rw[←hii]at hn
     by_cases hno2:o.no≤q.no
     ·rw[if_pos hno2]at hn
      try simp only[aQ]
      refine Ya [zR 9] [59,55,58] [zI 5 ((↑(opErr o (↑c.when.length:Int)):Int))] ?_
      refine JR_end (J_seq ?_)
      refine Zt ([zR 0,.rd 1 [] 0 6,zR 2,zR 3,.rd 4 [] 0 6]++Rds 5 8++[.rd 8 [.o 0 none] 0 0,zR 9,.rd 10 [] 0 2,zR 11,.rd 12 [.r 1 (some (nI o.no))] 0 0,zR 13,.rd 14 [.o 0 none] 0 0,zR 15,.rd 16 [] 0 1,.rd 17 [] 0 2,zR 18,.rd 19 [.r 1 (some (nI q.no))] 0 0,.rd 20 [] 0 6,zR 21]) [] [zB 81 true] (oC (show((↑(opErr o (↑c.when.length:Int)):Int)==(0:Int))=true from by simp;omega) (oC (show decide (i>(0:Int))=true from by simp;omega) (oC hi0 (oC hlt2 (oC hrd2_0 (oC (show IntKind.i64.wrap (i - 1)=i - 1 from wrap_i64 (by omega) (by omega)) (oC (show 0≤i - 1 from by omega) (oC (show i - 1<(↑c.ops.length:Int) from by omega) (oC hrd3_0 (oC (show decide (o.no≤q.no)=true from by simp;omega) oN)))))))))) ?_
      refine cTt ?_
      refine Za [zR 0] [81] [zI 5 3] ?_
      refine Zs [zR 0,zR 1] [] [zB 83 true] ?_
      refine cTt ?_
      refine Zv (Rds 0 3++[.wr 3 [.o 1 none,.o 1 none] 0]) [(3,[1])] [83] (fun _=>[]) (fun _=>[(1,.cells #[nI 3,nI i] 105 (0,0))]) o0 (fun _=>?_)
      refine Yr [[.o 1 none,.o 1 none]] (.agg #[nI 3,nI i]) fun a w s=>?_
      rw[hit _ hn (by decide)]
      exact s.ret (by simp) [] [] rfl rfl
     ·rw[if_neg hno2]at hn
      try simp only[aQ]
      refine Ya [zR 9] [59,55,58] [zI 5 ((↑(opErr o (↑c.when.length:Int)):Int))] ?_
      refine JR_end (J_seq ?_)
      refine Zt ([zR 0,.rd 1 [] 0 6,zR 2,zR 3,.rd 4 [] 0 6]++Rds 5 8++[.rd 8 [.o 0 none] 0 0,zR 9,.rd 10 [] 0 2,zR 11,.rd 12 [.r 1 (some (nI o.no))] 0 0,zR 13,.rd 14 [.o 0 none] 0 0,zR 15,.rd 16 [] 0 1,.rd 17 [] 0 2,zR 18,.rd 19 [.r 1 (some (nI q.no))] 0 0,.rd 20 [] 0 7,zR 21]) [] [zB 81 false] (oC (show((↑(opErr o (↑c.when.length:Int)):Int)==(0:Int))=true from by simp;omega) (oC (show decide (i>(0:Int))=true from by simp;omega) (oC hi0 (oC hlt2 (oC hrd2_0 (oC (show IntKind.i64.wrap (i - 1)=i - 1 from wrap_i64 (by omega) (by omega)) (oC (show 0≤i - 1 from by omega) (oC (show i - 1<(↑c.ops.length:Int) from by omega) (oC hrd3_0 (oC (show decide (o.no≤q.no)=false from by simp;omega) oN)))))))))) ?_
      refine cF ?_
      refine J_skip ?_
      refine Zt [zR 0,.rd 1 [] 0 7] [81] [zB 83 false] (oC (show decide ((↑(opErr o (↑c.when.length:Int)):Int)>(0:Int))=false from by simp;omega) oN) ?_
      refine cF ?_
      refine J_skip (J_eb ?_)
      refine Zp [zR 0,.rd 1 [] 0 1,zR 2] [83] [zI 4 (i+1)] (oC (show IntKind.i64.wrap (i+1)=i+1 from wrap_i64 (by omega) (by omega)) oN) ?_
      refine J_backx (i+1) [1,2,4] [0,1] [] [0,1] ?_ ?_ (by kernel_rfl) rfl rfl rfl
      ·exact next hn
      ·omega
    ·try simp only[aQ]
     refine Ya [zR 9] [59,55,58] [zI 5 ((↑(opErr o (↑c.when.length:Int)):Int))] ?_
     refine JR_end (J_seq ?_)
     refine Zt [zR 0,.rd 1 [] 0 7,zR 2,.rd 3 [] 1 0,.rd 4 [] 1 0,zR 5,zR 6,.rd 7 [] 1 0,.rd 8 [] 1 0,.rd 9 [] 1 0,.rd 10 [] 1 0,.rd 11 [] 1 0,.rd 12 [] 1 0,.rd 13 [] 1 0,.rd 14 [] 1 0,.rd 15 [] 1 0,.rd 16 [] 1 0,.rd 17 [] 1 0,.rd 18 [] 1 0,.rd 19 [] 1 0,.rd 20 [] 1 0,zR 21] [] [zB 81 false] (oC (show((↑(opErr o (↑c.when.length:Int)):Int)==(0:Int))=false from by simp;omega) oN) ?_
     refine cF ?_
     refine J_skip ?_
     refine Zt [zR 0,.rd 1 [] 0 6] [81] [zB 83 true] (oC (show decide ((↑(opErr o (↑c.when.length:Int)):Int)>(0:Int))=true from by simp;omega) oN) ?_
     refine cTt ?_
     refine Zv (Rds 0 3++[.wr 3 [.o 1 none,.o 1 none] 0]) [(3,[1])] [83] (fun _=>[]) (fun _=>[(1,.cells #[nI ((↑(opErr o (↑c.when.length:Int)):Int)),nI i] 105 (0,0))]) o0 (fun _=>?_)
     refine Yr [[.o 1 none,.o 1 none]] (.agg #[nI ((↑(opErr o (↑c.when.length:Int)):Int)),nI i]) fun a w s=>?_
     rw[hit _ (opErrAt_own ho he) he]
     exact s.ret (by simp) [] [] rfl rfl
  ·have hend:i.toNat=0+c.ops.length:=by simp at hlt;omega
   rw[(opsFault_from c.ops.length 0 i.toNat (Nat.zero_le _) hno).1 hend]
   refine J_exit rfl ?_
   refine jS [(0,false),(1,false)] [] ?_
   refine Yc 120 #[] (some 87) fun w S hG=>?_
   refine(rFine (w:=w) (S:=S)).mono ?_
   rintro e1 w1 hR
   refine⟨_,_,_,hR,?_⟩
   try simp only[aQ]
   refine Ym [.wr 1 [.o 1 none,.o 1 none] 0] [87,48,1,4] (fun _=>[]) (fun _=>[(1,.cells #[nI 0,nI (-1)] 105 (0,0))]) o0 [] (fun _=>?_)
   refine JR_end ?_
   refine Yr [[.o 1 none,.o 1 none]] (.agg #[nI 0,nI (-1)]) fun a w s=>?_
   exact s.ret (by simp) [] [] rfl rfl
 ·have e:comFault c=⟨vecErr c.when,-1⟩:=by rw[comFault,if_pos hv]
  try simp only[aQ]
  refine Ya [zR 3] [8,7] [zI 3 ((↑(vecErr c.when):Int))] ?_
  refine JR_end (J_seq ?_)
  refine Zt [zR 0,.rd 1 [] 0 6] [] [zB 10 true] (oC (show decide ((↑(vecErr c.when):Int)>(0:Int))=true from by simp;omega) oN) ?_
  refine cTt ?_
  refine jS [(0,true),(1,false),(2,false)] [] ?_
  refine Ya [zR 0] [10,3] [zI 11 ((↑(vecErr c.when):Int))] ?_
  refine Yc 116 #[nI ((↑(vecErr c.when):Int))] (some 12) fun w S hG=>?_
  refine(rBare (w:=w) (S:=S)).mono ?_
  rintro e1 w1 hR
  refine⟨_,_,_,hR,?_⟩
  try simp only[aQ]
  refine Ym [.wr 2 [.o 1 none,.o 1 none] 0] [12,11] (fun _=>[]) (fun _=>[(1,.cells #[nI ((↑(vecErr c.when):Int)),nI (-1)] 105 (0,0))]) o0 [] (fun _=>?_)
  refine JR_end ?_
  refine Yr [[.o 1 none,.o 1 none]] (.agg #[nI ((↑(vecErr c.when):Int)),nI (-1)]) fun a w s=>?_
  rw[e]
  exact s.ret (by simp) [] [] rfl rfl
end Go.Proofs.YtmkapocibaojdaaGreatDoor
namespace Go.Proofs.YtmkapocibaojdaaGreatDoor
open Go Go.Sx
def FRet (w:World) (S:Nat→Prop) (w':World) (e:Ending) (er:Nat→Addr) (f:FT):Prop:=
 (f.at' = -1∧∃v,Ret [] w S w' e v [] []∧ErrIs 390 er f.code v) ∨
 (1≤f.code∧0≤f.at'∧∃pb,Ret [] w S w' e (.iface 202 (.pointer (some ⟨pb,0,none⟩))) [] [(.pointer (some ⟨pb,0,none⟩),.ptr [.v (.int .i64 f.at'),.v (.iface 390 (.pointer (some (er f.code))))])])
set_option maxHeartbeats 2000000 in
theorem checkCommit {w:World} {S:Nat→Prop} {er:Nat→Addr} {eb:Nat→Array Value×TypeId} {a1 a2:Option Addr} {n1 c1 n2 c2:Nat} {c:ComT} (hC:Rep w S .nilIface (dC er eb)) (h1:Rep w S (.slice a1 n1 c1) (dInts c.when)) (h2:Rep w S (.slice a2 n2 c2) (.sl 7 (c.ops.map eOp))) (hl1:c.when.length≤1000000) (hl2:c.ops.length≤1000000) :
  Calls Tryz.prog 85 #[.agg #[.slice a1 n1 c1,.int .i64 c.place,.slice a2 n2 c2]] w fun e w'=>FRet w S w' e er (comFault c):=by
 obtain rfl:=rep_ints_len h1
 have e2:=h2.slen
 rw[List.length_map]at e2
 subst e2
 refine epG Tryz.func85 bd85 (args:=[.agg #[.slice a1 c.when.length c1,.int .i64 c.place,.slice a2 c.ops.length c2]]) (G:=[(_,dC er eb),(_,dInts c.when),(_,.sl 7 (c.ops.map eOp))]) (by kernel_rfl) (.cons hC (.cons h1 (.cons h2 (.nil _ _)))) ?_
 refine J_stp (stp_all 0 [1,2] rfl rfl) ?_
 refine J_glob 3 rfl (fun csg1 tyg1 fzg1 hglob1=>?_)
 refine J_glob 4 rfl (fun csg2 tyg2 fzg2 hglob2=>?_)
 try simp only[aQ]
 refine Zv [.wr 0 [] 0,zR 1] [] [0] (fun nu1=>[zP 1 (nu1 0),zV 2 .nilIface]) o0 (fun nu1=>[(nu1 0,.cells #[.slice a1 c.when.length c1,nI c.place,.slice a2 c.ops.length c2] 35 (0,0))]) (fun nu1=>?_)
 refine J_seq ?_
 refine jS [(0,true),(1,true),(2,false),(3,true)] [] ?_
 refine Ya [zR 0,.rd 1 [.o 0 none] 0 0] [] [zS 8 a1 c.when.length c1] ?_
 refine Yc 141 #[.slice a1 c.when.length c1] (some 9) fun w S hG=>?_
 refine(vcheck (globs_of (hG.at 0 rfl)) (hG.at 1 rfl) hl1).mono ?_
 rintro e1 w1 ⟨v,hR,hv⟩
 refine⟨_,_,_,hR,?_⟩
 obtain⟨hv0,rfl⟩|⟨hv0,rfl⟩:=hv
 ·try simp only[aQ]
  refine Ya [zR 3] [9,8] [zV 3 .nilIface] ?_
  refine JR_end ?_
  refine Zs [zR 0,zR 1] [] [zB 11 false] ?_
  refine cF ?_
  refine J_skip (J_seq (J_seq ?_))
  by_cases hb:c.place<0∨c.when.length≤c.place
  ·have e:comFault c=⟨2,-1⟩:=by rw[comFault,if_neg (by simp[hv0]),if_pos (by omega)]
   rcases(by omega:c.place<0∨(0≤c.place∧c.when.length≤c.place))with hb1|⟨hb1,hb2⟩
   ·refine Zp [.rd 0 [] 0 0,.rd 1 [.o 0 none] 0 0,.rd 2 [] 0 6,.rd 3 [] 0 0,.rd 4 [] 1 0,.rd 5 [] 1 0,.rd 6 [] 1 0,.rd 7 [] 1 0,.rd 8 [] 1 0,.rd 9 [] 1 0,.rd 10 [] 0 0,.rd 11 [] 0 0,.rd 12 [] 1 0,.rd 13 [] 1 0,.rd 14 [] 1 0,.rd 15 [] 1 0,.rd 16 [] 1 0,.rd 17 [] 1 0,.rd 18 [] 1 0,.rd 19 [] 0 0,.rd 20 [] 0 0,.rd 21 [] 1 0,.rd 22 [] 1 0,.rd 23 [] 1 0,.rd 24 [] 1 0,.rd 25 [] 0 0] [11,3] [(38,.val (.bool true))] (oC (show decide (c.place<(0:Int))=true from by simp;omega) oN) ?_
    refine cTt ?_
    refine Zt [.rd 0 [.r 0 (some (.iface 390 (.pointer (some (er 2)))))] 0 0,zR 1] [38] [zV 2 (.iface 390 (.pointer (some (er 2))))] (oC hglob1 oN) ?_
    refine Yr [[]] (.iface 390 (.pointer (some (er 2)))) fun a w s=>?_
    rw[e]
    exact .inl ⟨rfl,_,s.ret (by simp) [] [] rfl rfl,.inr ⟨by decide,rfl⟩⟩
   ·refine Zp [.rd 0 [] 0 0,.rd 1 [.o 0 none] 0 0,.rd 2 [] 0 7,.rd 3 [] 0 0,.rd 4 [] 0 0,.rd 5 [.o 0 none] 0 0,.rd 6 [] 0 0,.rd 7 [.o 0 none] 0 0,.rd 8 [] 0 0,.rd 9 [] 0 6,.rd 10 [] 0 0,.rd 11 [] 0 0,.rd 12 [] 1 0,.rd 13 [] 1 0,.rd 14 [] 1 0,.rd 15 [] 1 0,.rd 16 [] 1 0,.rd 17 [] 1 0,.rd 18 [] 1 0,.rd 19 [] 0 0,.rd 20 [] 0 0,.rd 21 [] 1 0,.rd 22 [] 1 0,.rd 23 [] 1 0,.rd 24 [] 1 0,.rd 25 [] 0 0] [11,3] [(38,.val (.bool true))] (oC (show decide (c.place<(0:Int))=false from by simp;omega) (oC (show decide (c.place≥(↑c.when.length:Int))=true from by simp;omega) oN)) ?_
    refine cTt ?_
    refine Zt [.rd 0 [.r 0 (some (.iface 390 (.pointer (some (er 2)))))] 0 0,zR 1] [38] [zV 2 (.iface 390 (.pointer (some (er 2))))] (oC hglob1 oN) ?_
    refine Yr [[]] (.iface 390 (.pointer (some (er 2)))) fun a w s=>?_
    rw[e]
    exact .inl ⟨rfl,_,s.ret (by simp) [] [] rfl rfl,.inr ⟨by decide,rfl⟩⟩
  obtain⟨t,ht⟩:∃t,c.when[c.place.toNat]?=some t:=⟨_,List.getElem?_eq_getElem (by omega)⟩
  have hg:¬(vecErr c.when≠0):=by simp[hv0]
  refine J_read0 1 rfl c.place.toNat (map_at ht) (by kernel_rfl) (fun b1 off1 cs1 ty1 fz1 ha1 hrd1=>?_)
  cases ha1
  have hrd1_0:=rd0 (hrd1 0 _ rfl)
  by_cases h0:t=0
  ·have e:comFault c=⟨2,-1⟩:=by
    by_cases h12:12<c.ops.length
    ·rw[comFault,if_neg hg,if_pos (by omega)]
    ·rw[comFault,if_neg hg,if_neg (by omega),if_pos (by rw[ht,h0])]
   try simp only[aQ]
   refine Zp ([zR 0,.rd 1 [.o 0 none] 0 0,.rd 2 [] 0 7,zR 3,zR 4,.rd 5 [.o 0 none] 0 0,zR 6,.rd 7 [.o 0 none] 0 0,zR 8,.rd 9 [] 0 7]++Rds 10 13++[.rd 13 [.o 0 none] 0 0,zR 14,.rd 15 [.o 0 none] 0 0,.rd 16 [] 0 2,.rd 17 [.r 2 (some (nI t))] 0 0,.rd 18 [] 0 6,zR 19,zR 20,.rd 21 [] 1 0,.rd 22 [] 1 0,.rd 23 [] 1 0,.rd 24 [] 1 0,zR 25]) [11,3] [zB 38 true] (oC (show decide (c.place<(0:Int))=false from by simp;omega) (oC (show decide (c.place≥(↑c.when.length:Int))=false from by simp;omega) (oC (show 0≤c.place from by omega) (oC (show c.place<(↑c.when.length:Int) from by omega) (oC hrd1_0 (oC (show(t==(0:Int))=true from by simp;omega) oN)))))) ?_
   refine cTt ?_
   refine Zt [.rd 0 [.r 0 (some (.iface 390 (.pointer (some (er 2)))))] 0 0,zR 1] [38] [zV 2 (.iface 390 (.pointer (some (er 2))))] (oC hglob1 oN) ?_
   refine Yr [[]] (.iface 390 (.pointer (some (er 2)))) fun a w s=>?_
   rw[e]
   exact .inl ⟨rfl,_,s.ret (by simp) [] [] rfl rfl,.inr ⟨by decide,rfl⟩⟩
  have h00:¬c.when[c.place.toNat]?=some 0:=by rw[ht];simpa using h0
  by_cases h12:12<c.ops.length
  ·have e:comFault c=⟨2,-1⟩:=by rw[comFault,if_neg hg,if_pos (by omega)]
   try simp only[aQ]
   refine Zp ([zR 0,.rd 1 [.o 0 none] 0 0,.rd 2 [] 0 7,zR 3,zR 4,.rd 5 [.o 0 none] 0 0,zR 6,.rd 7 [.o 0 none] 0 0,zR 8,.rd 9 [] 0 7]++Rds 10 13++[.rd 13 [.o 0 none] 0 0,zR 14,.rd 15 [.o 0 none] 0 0,.rd 16 [] 0 2,.rd 17 [.r 2 (some (nI t))] 0 0,.rd 18 [] 0 7]++Rds 19 22++[.rd 22 [.o 0 none] 0 0,zR 23,.rd 24 [] 0 6,zR 25]) [11,3] [zB 38 true] (oC (show decide (c.place<(0:Int))=false from by simp;omega) (oC (show decide (c.place≥(↑c.when.length:Int))=false from by simp;omega) (oC (show 0≤c.place from by omega) (oC (show c.place<(↑c.when.length:Int) from by omega) (oC hrd1_0 (oC (show(t==(0:Int))=false from by simp;omega) (oC (show decide ((↑c.ops.length:Int)>(12:Int))=true from by simp;omega) oN))))))) ?_
   refine cTt ?_
   refine Zt [.rd 0 [.r 0 (some (.iface 390 (.pointer (some (er 2)))))] 0 0,zR 1] [38] [zV 2 (.iface 390 (.pointer (some (er 2))))] (oC hglob1 oN) ?_
   refine Yr [[]] (.iface 390 (.pointer (some (er 2)))) fun a w s=>?_
   rw[e]
   exact .inl ⟨rfl,_,s.ret (by simp) [] [] rfl rfl,.inr ⟨by decide,rfl⟩⟩
  have hb2:¬(c.place<0∨c.when.length≤c.place∨12<c.ops.length):=by omega
  try simp only[aQ]
  refine Zp ([zR 0,.rd 1 [.o 0 none] 0 0,.rd 2 [] 0 7,zR 3,zR 4,.rd 5 [.o 0 none] 0 0,zR 6,.rd 7 [.o 0 none] 0 0,zR 8,.rd 9 [] 0 7]++Rds 10 13++[.rd 13 [.o 0 none] 0 0,zR 14,.rd 15 [.o 0 none] 0 0,.rd 16 [] 0 2,.rd 17 [.r 2 (some (nI t))] 0 0,.rd 18 [] 0 7]++Rds 19 22++[.rd 22 [.o 0 none] 0 0,zR 23,.rd 24 [] 0 7,zR 25]) [11,3] [zB 38 false] (oC (show decide (c.place<(0:Int))=false from by simp;omega) (oC (show decide (c.place≥(↑c.when.length:Int))=false from by simp;omega) (oC (show 0≤c.place from by omega) (oC (show c.place<(↑c.when.length:Int) from by omega) (oC hrd1_0 (oC (show(t==(0:Int))=false from by simp;omega) (oC (show decide ((↑c.ops.length:Int)>(12:Int))=false from by simp;omega) oN))))))) ?_
  refine cF ?_
  refine J_skip (J_seq ?_)
  refine Zs [zR 0,.rd 1 [.o 0 none] 0 0,zR 2,zR 3] [38] [zB 43 ((↑c.ops.length:Int)==0)] ?_
  refine cC (t:=(↑c.ops.length:Int)==0) (fun hz=>?_) (fun hz=>?_)
  ·have e:comFault c=⟨3,-1⟩:=by rw[comFault,if_neg hg,if_neg hb2,if_neg h00,if_pos (by simp at hz;simp[hz])]
   refine Zt [.rd 0 [.r 1 (some (.iface 390 (.pointer (some (er 3)))))] 0 0,zR 1] [43] [zV 2 (.iface 390 (.pointer (some (er 3))))] (oC hglob2 oN) ?_
   refine Yr [[]] (.iface 390 (.pointer (some (er 3)))) fun a w s=>?_
   rw[e]
   exact .inl ⟨rfl,_,s.ret (by simp) [] [] rfl rfl,.inr ⟨by decide,rfl⟩⟩
  have hz2:¬c.ops.length=0:=by simp at hz;simp[hz]
  have e:comFault c=opsFault c.ops c.when.length c.ops.length 0:=by rw[comFault,if_neg hg,if_neg hb2,if_neg h00,if_neg hz2]
  rw[e]
  refine J_skip (J_seq ?_)
  refine Zs [zR 0,.rd 1 [.o 0 none] 0 0,zR 2,zR 3] [43] [zS 46 a2 c.ops.length c2,zI 47 (↑c.ops.length:Int),zI 48 0] ?_
  refine J_block ?_
  refine J_loopx (fun i:Int=>[zP 1 (nu1 0),zV 2 .nilIface,zS 46 a2 c.ops.length c2,zI 47 (↑c.ops.length:Int),zI 48 i]) (fun i:Int=>[(nu1 0,.cells #[.slice (sA b1 off1) c.when.length c1,nI c.place,.slice a2 c.ops.length c2] 35 (0,0))]) (fun i:Int=>[]) (fun i:Int=>[(.nilIface,(dC er eb)),(.slice (sA b1 off1) c.when.length c1,(dInts c.when)),(.slice a2 c.ops.length c2,(D.sl 7 (List.map eOp c.ops))),(.pointer (sA 0 0),(D.ptr [D.v (Value.iface 390 (Value.pointer (some (er 2))))])),(.pointer (sA 1 0),(D.ptr [D.v (Value.iface 390 (Value.pointer (some (er 3))))]))]) (fun i:Int=>(c.ops.length - i).toNat) (fun i:Int=>(0≤i∧i≤c.ops.length∧∀j:Nat,0≤j→j<i.toNat→opErrAt c.ops c.when.length j=0)) 0 [1,2,46,47,48] [0] [] [0,1,2,3,4] ?_ (by kernel_rfl) rfl rfl rfl ?_
  ·exact⟨by simp,by omega,by simp⟩
  rintro i ⟨hi0,hi,hno⟩
  refine Zs [zR 0] [] [zB 49 (decide (i<(↑c.ops.length:Int)))] ?_
  refine J_seq ?_
  refine cC (t:=decide (i<(↑c.ops.length:Int))) (fun hlt=>?_) (fun hlt=>?_)
  ·have hlt2:i<c.ops.length:=by simpa using hlt
   obtain⟨o,ho⟩:∃o,c.ops[i.toNat]?=some o:=⟨_,List.getElem?_eq_getElem (by omega)⟩
   have hit:∀k:Nat,opErrAt c.ops c.when.length i.toNat=k→k≠0→opsFault c.ops c.when.length c.ops.length 0=⟨k,i⟩:=fun k hk h0=>by
    rw[(opsFault_from c.ops.length 0 i.toNat (Nat.zero_le _) hno).2 (by omega) (by rw[hk];exact h0),hk]
    congr 1
    omega
   have next:opErrAt c.ops c.when.length i.toNat=0→0≤i+1∧i+1≤c.ops.length∧∀j:Nat,0≤j→j<(i+1).toNat→opErrAt c.ops c.when.length j=0:=fun h=>⟨by omega,by omega,fun j h0 hj=>by
    by_cases hji:j=i.toNat
    ·rw[hji];exact h
    ·exact hno j h0 (by omega)⟩
   refine J_glob 4 rfl (fun csg3 tyg3 fzg3 hglob3=>?_)
   refine J_read1 2 rfl i.toNat (map_at ho) (by kernel_rfl) (fun b2 off2 cs2 ty2 fz2 a2_0 c2_0 ha2 hrd2=>?_)
   cases ha2
   have hrd2_0:=rd0 (hrd2 0 _ rfl)
   have hrd2_1:=hrd2 1 _ rfl
   have hrd2_2:=hrd2 2 _ rfl
   have hrd2_3:=hrd2 3 _ rfl
   have hrd2_4:=hrd2 4 _ rfl
   have hrd2_5:=hrd2 5 _ rfl
   have hrd2_6:=hrd2 6 _ rfl
   by_cases hi1:i=0
   ·have hz0:i.toNat=0:=by omega
    try simp only[aQ]
    refine J_skip (J_seq (J_block ?_))
    refine Zu [zR 0,.rd 1 [] 0 2,.rd 2 [.r 4 (some (nI o.no)),.r 4 (some (.string o.key)),.r 4 (some (nI o.kind)),.r 4 (some (.string o.text)),.r 4 (some (nI o.n)),.r 4 (some (.bool o.remove)),.r 4 (some (.slice (a2_0,c2_0).fst ((List.map eDot o.dots).length) c2_0))] 0 0,.wr 3 [] 0,zR 4,.wr 5 (hnO 1 7) 0] [(5,[])] [49] (fun nu2=>[zI 4 i,zP 5 (nu2 0)]) o0 (fun nu2=>[(nu2 0,.cells #[nI o.no,.string o.key,nI o.kind,.string o.text,nI o.n,.bool o.remove,.slice (a2_0,c2_0).fst ((List.map eDot o.dots).length) c2_0] 55 (0,0))]) (fun nu2=>(oC hi0 (oC hlt2 (oC hrd2_0 (oC hrd2_1 (oC hrd2_2 (oC hrd2_3 (oC hrd2_4 (oC hrd2_5 (oC hrd2_6 oN)))))))))) (fun nu2=>?_)
    refine jS [(0,true),(1,true),(2,true),(3,true),(4,false),(5,true)] [] ?_
    refine Ya [.rd 0 (hnO 1 7) 0 0,zR 1,.rd 2 [.o 0 none] 0 0,zR 3] [] [zV 53 (.agg #[nI o.no,.string o.key,nI o.kind,.string o.text,nI o.n,.bool o.remove,.slice (a2_0,c2_0).fst ((List.map eDot o.dots).length) c2_0]),zI 56 (↑c.when.length:Int)] ?_
    refine Yc 144 #[.agg #[nI o.no,.string o.key,nI o.kind,.string o.text,nI o.n,.bool o.remove,.slice (a2_0,c2_0).fst ((List.map eDot o.dots).length) c2_0],nI (↑c.when.length:Int)] (some 57) fun w S hG=>?_
    refine(vCheckOp (o:=o) (hG.at 0 rfl) (hG.at 5 rfl)).mono ?_
    rintro e1 w1 ⟨v,hR,hv⟩
    refine⟨_,_,_,hR,?_⟩
    obtain⟨he,rfl⟩|⟨he,rfl⟩:=hv
    ·try simp only[aQ]
     refine Ya [zR 5] [57,53,56] [zV 6 .nilIface] ?_
     refine JR_end (J_seq ?_)
     refine Zt (Rds 0 4++[.rd 4 [] 0 7,zR 5,zR 6,.rd 7 [] 1 0,.rd 8 [] 1 0,.rd 9 [] 1 0,.rd 10 [] 1 0,.rd 11 [] 1 0,.rd 12 [] 1 0,.rd 13 [] 1 0,.rd 14 [] 1 0,.rd 15 [] 1 0,.rd 16 [] 1 0,zR 17]) [] [zB 75 false] (oC (show decide (i>(0:Int))=false from by simp;omega) oN) ?_
     refine cF ?_
     refine J_skip ?_
     refine Zs [zR 0,zR 1] [75] [zB 78 false] ?_
     refine cF ?_
     refine J_skip (J_eb ?_)
     refine Zp [.rd 0 [] 0 1,zR 1] [78] [zI 48 (i+1)] (oC (show IntKind.i64.wrap (i+1)=i+1 from wrap_i64 (by omega) (by omega)) oN) ?_
     refine J_backx (i+1) [1,2,46,47,48] [0] [] [0,1,2,3,4] ?_ ?_ (by kernel_rfl) rfl rfl rfl
     ·exact next (by rw[hz0]at ho ⊢;exact opErrAt_first ho he)
     ·omega
    ·try simp only[aQ]
     refine Ya [zR 5] [57,53,56] [zV 6 (.iface 390 (.pointer (some (er (opErr o (↑c.when.length:Int))))))] ?_
     refine JR_end (J_seq ?_)
     refine Zs (Rds 0 3++[.rd 3 [] 1 0,.rd 4 [] 1 0,zR 5,zR 6,.rd 7 [] 1 0,.rd 8 [] 1 0,.rd 9 [] 1 0,.rd 10 [] 1 0,.rd 11 [] 1 0,.rd 12 [] 1 0,.rd 13 [] 1 0,.rd 14 [] 1 0,.rd 15 [] 1 0,.rd 16 [] 1 0,zR 17]) [] [zB 75 false] ?_
     refine cF ?_
     refine J_skip ?_
     refine Zs [zR 0,zR 1] [75] [zB 78 true] ?_
     refine cTt ?_
     refine Zv (Rds 0 3++[.wr 3 [] 0,zR 4,zR 5]) [] [78] (fun nu3=>[zV 2 (.iface 202 (.pointer (sA (nu3 0) 0)))]) o0 (fun nu3=>[(nu3 0,.cells #[nI i,.iface 390 (.pointer (some (er (opErr o (↑c.when.length:Int)))))] 204 (0,0))]) (fun nu3=>?_)
     refine Yr [[]] (.iface 202 (.pointer (sA (nu3 0) 0))) fun a w s=>?_
     rw[hit _ (opErrAt_own ho he) he]
     exact .inr ⟨by simp only;omega,hi0,_,((s.share 2 rfl).stp (stp_fact fun w S H=>ptr_of_obj rfl rfl (H (_,_) (List.mem_of_getElem? (i:=6) rfl)))).ret (by simp) [] [7] rfl rfl⟩
   ·obtain⟨q,hq⟩:∃q,c.ops[(i - 1).toNat]?=some q:=⟨_,List.getElem?_eq_getElem (by omega)⟩
    have hii:i.toNat=(i - 1).toNat+1:=by omega
    refine J_again1 2 rfl 4 rfl ((i - 1).toNat) (map_at hq) (by kernel_rfl) (fun a3_0 c3_0 hrd3=>?_)
    have hrd3_0:=rd0 (hrd3 0 _ rfl)
    have hrd3_1:=hrd3 1 _ rfl
    have hrd3_2:=hrd3 2 _ rfl
    have hrd3_3:=hrd3 3 _ rfl
    have hrd3_4:=hrd3 4 _ rfl
    have hrd3_5:=hrd3 5 _ rfl
    have hrd3_6:=hrd3 6 _ rfl
    try simp only[aQ]
    refine J_skip (J_seq (J_block ?_))
    refine Zu [zR 0,.rd 1 [] 0 2,.rd 2 [.r 4 (some (nI o.no)),.r 4 (some (.string o.key)),.r 4 (some (nI o.kind)),.r 4 (some (.string o.text)),.r 4 (some (nI o.n)),.r 4 (some (.bool o.remove)),.r 4 (some (.slice (a2_0,c2_0).fst ((List.map eDot o.dots).length) c2_0))] 0 0,.wr 3 [] 0,zR 4,.wr 5 (hnO 1 7) 0] [(5,[])] [49] (fun nu2=>[zI 4 i,zP 5 (nu2 0)]) o0 (fun nu2=>[(nu2 0,.cells #[nI o.no,.string o.key,nI o.kind,.string o.text,nI o.n,.bool o.remove,.slice (a2_0,c2_0).fst ((List.map eDot o.dots).length) c2_0] 55 (0,0))]) (fun nu2=>(oC hi0 (oC hlt2 (oC hrd2_0 (oC hrd2_1 (oC hrd2_2 (oC hrd2_3 (oC hrd2_4 (oC hrd2_5 (oC hrd2_6 oN)))))))))) (fun nu2=>?_)
    refine jS [(0,true),(1,true),(2,true),(3,true),(4,false),(5,true)] [] ?_
    refine Ya [.rd 0 (hnO 1 7) 0 0,zR 1,.rd 2 [.o 0 none] 0 0,zR 3] [] [zV 53 (.agg #[nI o.no,.string o.key,nI o.kind,.string o.text,nI o.n,.bool o.remove,.slice (a2_0,c2_0).fst ((List.map eDot o.dots).length) c2_0]),zI 56 (↑c.when.length:Int)] ?_
    refine Yc 144 #[.agg #[nI o.no,.string o.key,nI o.kind,.string o.text,nI o.n,.bool o.remove,.slice (a2_0,c2_0).fst ((List.map eDot o.dots).length) c2_0],nI (↑c.when.length:Int)] (some 57) fun w S hG=>?_
    refine(vCheckOp (o:=o) (hG.at 0 rfl) (hG.at 5 rfl)).mono ?_
    rintro e1 w1 ⟨v,hR,hv⟩
    refine⟨_,_,_,hR,?_⟩
    obtain⟨he,rfl⟩|⟨he,rfl⟩:=hv
    ·have hn:=opErrAt_next (p:=c.when.length) (by rw[←hii];exact ho) hq he
     rw[←hii]at hn
     by_cases hno2:o.no≤q.no
     ·rw[if_pos hno2]at hn
      try simp only[aQ]
      refine Ya [zR 5] [57,53,56] [zV 6 .nilIface] ?_
      refine JR_end (J_seq ?_)
      refine Zt (Rds 0 4++[.rd 4 [] 0 6]++Rds 5 8++[.rd 8 [.o 1 none] 0 0,zR 9,.rd 10 [.o 0 none] 0 0,zR 11,.rd 12 [] 0 1,.rd 13 [] 0 2,zR 14,.rd 15 [.r 4 (some (nI q.no))] 0 0,.rd 16 [] 0 6,zR 17]) [] [zB 75 true] (oC (show decide (i>(0:Int))=true from by simp;omega) (oC (show IntKind.i64.wrap (i - 1)=i - 1 from wrap_i64 (by omega) (by omega)) (oC (show 0≤i - 1 from by omega) (oC (show i - 1<(↑c.ops.length:Int) from by omega) (oC hrd3_0 (oC (show decide (o.no≤q.no)=true from by simp;omega) oN)))))) ?_
      refine cTt ?_
      refine Zp [.rd 0 [.r 1 (some (.iface 390 (.pointer (some (er 3)))))] 0 0,zR 1] [75] [zV 6 (.iface 390 (.pointer (some (er 3))))] (oC hglob2 oN) ?_
      refine Zs [zR 0,zR 1] [] [zB 78 true] ?_
      refine cTt ?_
      refine Zv (Rds 0 3++[.wr 3 [] 0,zR 4,zR 5]) [] [78] (fun nu3=>[zV 2 (.iface 202 (.pointer (sA (nu3 0) 0)))]) o0 (fun nu3=>[(nu3 0,.cells #[nI i,.iface 390 (.pointer (some (er 3)))] 204 (0,0))]) (fun nu3=>?_)
      refine Yr [[]] (.iface 202 (.pointer (sA (nu3 0) 0))) fun a w s=>?_
      rw[hit _ hn (by decide)]
      exact .inr ⟨by simp only;omega,hi0,_,((s.share 2 rfl).stp (stp_fact fun w S H=>ptr_of_obj rfl rfl (H (_,_) (List.mem_of_getElem? (i:=7) rfl)))).ret (by simp) [] [8] rfl rfl⟩
     ·rw[if_neg hno2]at hn
      try simp only[aQ]
      refine Ya [zR 5] [57,53,56] [zV 6 .nilIface] ?_
      refine JR_end (J_seq ?_)
      refine Zt (Rds 0 4++[.rd 4 [] 0 6]++Rds 5 8++[.rd 8 [.o 1 none] 0 0,zR 9,.rd 10 [.o 0 none] 0 0,zR 11,.rd 12 [] 0 1,.rd 13 [] 0 2,zR 14,.rd 15 [.r 4 (some (nI q.no))] 0 0,.rd 16 [] 0 7,zR 17]) [] [zB 75 false] (oC (show decide (i>(0:Int))=true from by simp;omega) (oC (show IntKind.i64.wrap (i - 1)=i - 1 from wrap_i64 (by omega) (by omega)) (oC (show 0≤i - 1 from by omega) (oC (show i - 1<(↑c.ops.length:Int) from by omega) (oC hrd3_0 (oC (show decide (o.no≤q.no)=false from by simp;omega) oN)))))) ?_
      refine cF ?_
      refine J_skip ?_
      refine Zs [zR 0,zR 1] [75] [zB 78 false] ?_
      refine cF ?_
      refine J_skip (J_eb ?_)
      refine Zp [.rd 0 [] 0 1,zR 1] [78] [zI 48 (i+1)] (oC (show IntKind.i64.wrap (i+1)=i+1 from wrap_i64 (by omega) (by omega)) oN) ?_
      refine J_backx (i+1) [1,2,46,47,48] [0] [] [0,1,2,3,4] ?_ ?_ (by kernel_rfl) rfl rfl rfl
      ·exact next hn
      ·omega
    ·try simp only[aQ]
     refine Ya [zR 5] [57,53,56] [zV 6 (.iface 390 (.pointer (some (er (opErr o (↑c.when.length:Int))))))] ?_
     refine JR_end (J_seq ?_)
     refine Zs (Rds 0 3++[.rd 3 [] 1 0,.rd 4 [] 1 0,zR 5,zR 6,.rd 7 [] 1 0,.rd 8 [] 1 0,.rd 9 [] 1 0,.rd 10 [] 1 0,.rd 11 [] 1 0,.rd 12 [] 1 0,.rd 13 [] 1 0,.rd 14 [] 1 0,.rd 15 [] 1 0,.rd 16 [] 1 0,zR 17]) [] [zB 75 false] ?_
     refine cF ?_
     refine J_skip ?_
     refine Zs [zR 0,zR 1] [75] [zB 78 true] ?_
     refine cTt ?_
     refine Zv (Rds 0 3++[.wr 3 [] 0,zR 4,zR 5]) [] [78] (fun nu3=>[zV 2 (.iface 202 (.pointer (sA (nu3 0) 0)))]) o0 (fun nu3=>[(nu3 0,.cells #[nI i,.iface 390 (.pointer (some (er (opErr o (↑c.when.length:Int)))))] 204 (0,0))]) (fun nu3=>?_)
     refine Yr [[]] (.iface 202 (.pointer (sA (nu3 0) 0))) fun a w s=>?_
     rw[hit _ (opErrAt_own ho he) he]
     exact .inr ⟨by simp only;omega,hi0,_,((s.share 2 rfl).stp (stp_fact fun w S H=>ptr_of_obj rfl rfl (H (_,_) (List.mem_of_getElem? (i:=7) rfl)))).ret (by simp) [] [8] rfl rfl⟩
  ·have hend:i.toNat=0+c.ops.length:=by simp at hlt;omega
   rw[(opsFault_from c.ops.length 0 i.toNat (Nat.zero_le _) hno).1 hend]
   refine J_exit rfl ?_
   refine Zs [zR 0] [49,1,46,47,48] [] ?_
   refine Yr [[]] (.nilIface) fun a w s=>?_
   exact .inl ⟨rfl,_,s.ret (by simp) [] [] rfl rfl,.inl ⟨rfl,rfl⟩⟩
 ·have e:comFault c=⟨vecErr c.when,-1⟩:=by rw[comFault,if_pos hv0]
  try simp only[aQ]
  refine Ya [zR 3] [9,8] [zV 3 (.iface 390 (.pointer (some (er (vecErr c.when)))))] ?_
  refine JR_end ?_
  refine Zs [zR 0,zR 1] [] [zB 11 true] ?_
  refine cTt ?_
  refine Zs [zR 0,zR 1] [11,3] [zV 2 (.iface 390 (.pointer (some (er (vecErr c.when)))))] ?_
  refine Yr [[]] (.iface 390 (.pointer (some (er (vecErr c.when))))) fun a w s=>?_
  rw[e]
  exact .inl ⟨rfl,_,s.ret (by simp) [] [] rfl rfl,.inr ⟨hv0,rfl⟩⟩
end Go.Proofs.YtmkapocibaojdaaGreatDoor
end
section
namespace Go.Proofs.YtmkapocibaojdaaGreatDoor
open Go Go.Sx
set_option maxHeartbeats 4000000 in
theorem asNil {w:World} {S:Nat→Prop} {t:Addr}:Calls Tryz.prog 123 #[.nilIface,.iface 229 (.pointer (some t))] w fun e w'=>Ret [] w S w' e (.bool false) [] []:=by
 refine epG Tryz.func123 bd123 (args:=[.nilIface,.iface 229 (.pointer (some t))]) (S:=S) (G:=[]) (by kernel_rfl) (.nil _ _) ?_
 refine Zs [zR 0] [] [zB 4 false] ?_
 refine J_seq ?_
 refine Zs [zR 0,zR 1] [] [zB 9 true] ?_
 refine cTt ?_
 refine Zs [zR 0] [9] [] ?_
 refine Yr [[]] (.bool false) fun a w s=>?_
 exact s.ret (by simp) [] [] rfl rfl
set_option maxHeartbeats 4000000 in
theorem bareE {w:World} {S:Nat→Prop} {er:Nat→Addr} {eb:Nat→Array Value×TypeId} {k:Nat} {v:Value} (hC:Rep w S .nilIface (dC er eb)) (hv:ErrIs 390 er k v) :
  Calls Tryz.prog 164 #[v] w fun e w'=>Ret [] w S w' e v [] []:=by
 rcases hv with ⟨rfl,rfl⟩|⟨h0,rfl⟩
 ·refine epG Tryz.func164 bd164 (args:=[.nilIface]) (G:=[(_,dC er eb)]) (by kernel_rfl) (.cons hC (.nil _ _)) ?_
  refine Zs [zR 0] [] [zV 2 .nilIface] ?_
  refine Zv [.wr 0 [] 0] [] [] (fun nu1=>[zP 3 (nu1 0)]) o0 (fun nu1=>[(nu1 0,.cells #[.pointer none] 202 (0,0))]) (fun nu1=>?_)
  refine J_seq ?_
  refine jS [(0,true),(1,true),(2,false)] [] ?_
  refine Ya [zR 0,zR 1] [] [zV 4 .nilIface,zV 5 (.iface 229 (.pointer (sA (nu1 0) 0)))] ?_
  refine Yc 123 #[.nilIface,.iface 229 (.pointer (sA (nu1 0) 0))] (some 6) fun w S hG=>?_
  refine(asNil (S:=S)).mono ?_
  rintro e1 w1 hR
  refine⟨_,_,_,hR,?_⟩
  try simp only[aQ]
  refine JR_end ?_
  refine cF ?_
  refine J_skip ?_
  refine Zs [zR 0,zR 1] [6,4,5,3,0] [] ?_
  refine Yr [[]] (.nilIface) fun a w s=>?_
  exact s.ret (by simp) [] [] rfl rfl
 ·refine epG Tryz.func164 bd164 (args:=[.iface 390 (.pointer (some (er k)))]) (G:=[(_,dC er eb)]) (by kernel_rfl) (.cons hC (.nil _ _)) ?_
  refine Zs [zR 0] [] [zV 2 .nilIface] ?_
  refine Zv [.wr 0 [] 0] [] [] (fun nu1=>[zP 3 (nu1 0)]) o0 (fun nu1=>[(nu1 0,.cells #[.pointer none] 202 (0,0))]) (fun nu1=>?_)
  refine J_seq ?_
  refine jS [(0,true),(1,true),(2,false)] [] ?_
  refine Ya [zR 0,zR 1] [] [zV 4 (.iface 390 (.pointer (some (er k)))),zV 5 (.iface 229 (.pointer (sA (nu1 0) 0)))] ?_
  refine Yc 123 #[.iface 390 (.pointer (some (er k))),.iface 229 (.pointer (sA (nu1 0) 0))] (some 6) fun w S hG=>?_
  refine(asMiss (hG.at 0 rfl)).mono ?_
  rintro e1 w1 hR
  refine⟨_,_,_,hR,?_⟩
  try simp only[aQ]
  refine JR_end ?_
  refine cF ?_
  refine J_skip ?_
  refine Zs [zR 0,zR 1] [6,4,5,3,0] [zV 2 (.iface 390 (.pointer (some (er k))))] ?_
  refine Yr [[]] (.iface 390 (.pointer (some (er k)))) fun a w s=>?_
  exact s.ret (by simp) [] [] rfl rfl
set_option maxHeartbeats 4000000 in
theorem bareF {w:World} {S:Nat→Prop} {er:Nat→Addr} {eb:Nat→Array Value×TypeId} {k pb:Nat} {at':Int} (hC:Rep w S .nilIface (dC er eb)) (hp:Rep w S (.pointer (some ⟨pb,0,none⟩)) (.ptr [.v (.int .i64 at'),.v (.iface 390 (.pointer (some (er k))))])) :
  Calls Tryz.prog 164 #[.iface 202 (.pointer (some ⟨pb,0,none⟩))] w fun e w'=>Ret [] w S w' e (.iface 390 (.pointer (some (er k)))) [] []:=by
 refine epG Tryz.func164 bd164 (args:=[.iface 202 (.pointer (some ⟨pb,0,none⟩))]) (G:=[(_,dC er eb),(_,.ptr [.v (.int .i64 at'),.v (.iface 390 (.pointer (some (er k))))])]) (by kernel_rfl) (.cons hC (.cons hp (.nil _ _))) ?_
 refine J_ptrl 1 rfl fun b off cs e fz ls he hl hc=>?_
 cases he
 obtain rfl:ls=[]:=List.eq_nil_of_length_eq_zero hl
 have hc1:cs[0+1]?=some (.iface 390 (.pointer (some (er k)))):=hc 1 _ rfl
 try simp only[aQ]
 refine Zs [zR 0] [] [zV 2 .nilIface] ?_
 refine Zv [.wr 0 [] 0] [] [] (fun nu1=>[zP 3 (nu1 0)]) o0 (fun nu1=>[(nu1 0,.cells #[.pointer none] 202 (0,0))]) (fun nu1=>?_)
 refine J_seq (J_seq ?_)
 refine J_hide 0 rfl ?_
 try simp only[aQ]
 refine jT [(0,true),(1,true),(2,false)] [] ?_
 refine Ya [zR 0,zR 1] [] [zV 4 (.iface 202 (.pointer (sA pb 0))),zV 5 (.iface 229 (.pointer (sA (nu1 0) 0)))] ?_
 refine JR_call [] [0] 123 #[.iface 202 (.pointer (some (⟨pb,0,none⟩))),.iface 229 (.pointer (some (⟨nu1 0,0,none⟩)))] (some 6) (by kernel_rfl) (by kernel_rfl) (by decide) (fun w S M hP hG _=>?_)
 refine(asHit (hG.at 0 rfl) hP).mono ?_
 rintro e1 w1 hR
 refine⟨_,_,_,hR,?_⟩
 try simp only[aQ]
 refine JR_end ?_
 try simp only[aQ]
 refine cTt ?_
 try simp only[aQ]
 refine J_seq ?_
 try simp only[aQ]
 refine J_show 0 rfl ?_
 refine Zp [.rd 0 [.o 0 none] 0 0,zR 1,zR 2,.rd 3 [.r 0 (some (.iface 390 (.pointer (some (er k)))))] 0 0,zR 4] [6,4,5,3] [zV 2 (.iface 390 (.pointer (some (er k))))] (oC hc1 oN) ?_
 refine Yr [[]] (.iface 390 (.pointer (some (er k)))) fun a w s=>?_
 exact s.ret (by simp) [] [] rfl rfl
end Go.Proofs.YtmkapocibaojdaaGreatDoor
end
section
namespace Go.Sx
open Go
theorem strEq (a b:ByteArray):(a.toList==b.toList)=decide (a=b):=by
 rw[ByteArray.toList_eq,ByteArray.toList_eq]
 by_cases h:a=b
 ·subst h;simp
 ·rw[decide_eq_false h]
  simp only[beq_eq_false_iff_ne,ne_eq]
  intro he
  apply h
  cases a;cases b
  simp only[ByteArray.mk.injEq]
  exact Array.toList_inj.1 he
def wsum (xs:List Int):Int:=xs.foldl (· + ·) 0
def cmpI (x y:Int):Int:=if x<y then -1 else if y<x then 1 else 0
def orL:List Int→Int
 | []=>0
 | x::l=>if x≠0 then x else orL l
theorem orL_none:∀{l:List Int},(∀(j:Nat) t,l[j]?=some t→t=0)→orL l=0
 | [],_=>rfl
 | x::l,h=>by
  have h0:=h 0 x rfl
  rw[orL,if_neg (by simp[h0])]
  exact orL_none fun j t ht=>h (j+1) t (by simpa using ht)
theorem orL_at:∀{l:List Int} {i:Nat} {x:Int},(∀j:Nat,j<i→∀t,l[j]?=some t→t=0)→l[i]?=some x→x≠0→orL l=x
 | [],_,_,_,h,_=>by simp at h
 | y::l,0,x,_,h,hx=>by
  simp only[List.getElem?_cons_zero,Option.some.injEq]at h
  subst h
  rw[orL,if_pos hx]
 | y::l,i+1,x,hz,h,hx=>by
  have h0:=hz 0 (by omega) y rfl
  rw[orL,if_neg (by simp[h0])]
  exact orL_at (i:=i) (fun j hj t ht=>hz (j+1) (by omega) t (by simpa using ht)) (by simpa using h) hx
def lexC:List Int→List Int→Int
 | x::xs,y::ys=>if cmpI x y≠0 then cmpI x y else lexC xs ys
 | _,_=>0
theorem cmpI_zero {x y:Int}:cmpI x y=0↔x=y:=by
 unfold cmpI
 split
 ·omega
 ·split <;> omega
theorem cmpI_neg {x y:Int}:cmpI x y<0↔x<y:=by
 unfold cmpI
 split
 ·omega
 ·split <;> omega
theorem lexC_self:∀xs:List Int,lexC xs xs=0
 | []=>rfl
 | x::xs=>by
  have h:cmpI x x=0:=cmpI_zero.2 rfl
  simp[lexC,h,lexC_self xs]
theorem lexC_neg {x y:Int} {xs ys:List Int}:lexC (x::xs) (y::ys)<0↔x<y∨(x=y∧lexC xs ys<0):=by
 rw[lexC]
 by_cases h:cmpI x y=0
 ·have:=cmpI_zero.1 h
  rw[if_neg (by simpa using h)]
  simp[this]
 ·have h2:x≠y:=fun he=>h (cmpI_zero.2 he)
  rw[if_pos h,cmpI_neg]
  simp[h2]
theorem lexC_tri:∀{xs ys:List Int},xs.length=ys.length→lexC xs ys<0∨xs=ys∨lexC ys xs<0
 | [],[],_=>.inr (.inl rfl)
 | x::xs,y::ys,hl=>by
  rw[lexC_neg,lexC_neg]
  rcases Int.lt_trichotomy x y with h|h|h
  ·exact .inl (.inl h)
  ·subst h
   rcases lexC_tri (xs:=xs) (ys:=ys) (by simpa using hl)with h|h|h
   ·exact .inl (.inr ⟨rfl,h⟩)
   ·subst h;exact .inr (.inl rfl)
   ·exact .inr (.inr (.inr ⟨rfl,h⟩))
  ·exact .inr (.inr (.inl h))
theorem lexC_trans:∀{xs ys zs:List Int},lexC xs ys<0→lexC ys zs<0→lexC xs zs<0
 | x::xs,y::ys,z::zs,h1,h2=>by
  rw[lexC_neg]at h1 h2 ⊢
  rcases h1 with h1|⟨rfl,h1⟩ <;> rcases h2 with h2|⟨rfl,h2⟩
  ·exact .inl (Int.lt_trans h1 h2)
  ·exact .inl h1
  ·exact .inl h2
  ·exact .inr ⟨rfl,lexC_trans h1 h2⟩
 | [],_,_,h1,_=>by simp[lexC]at h1
 | _::_,[],_,h1,_=>by simp[lexC]at h1
 | _::_,_::_,[],_,h2=>by simp[lexC]at h2
theorem lexC_asymm {xs ys:List Int} (h1:lexC xs ys<0) (h2:lexC ys xs<0):False:=by
 have:=lexC_trans h1 h2
 rw[lexC_self]at this
 omega
structure DoneT where
 o:OpT
 d:DotT
 w:Int
abbrev eDone (x:DoneT):List D:=[dI x.o.no,.v (.string x.o.key),dI x.o.kind,.v (.string x.o.text),dI x.o.n,.v (.bool x.o.remove),.sl 3 (x.o.dots.map eDot),dI x.d.place,dI x.d.time,dI x.d.no,dI x.w]
def dotOf (c:ComT) (o:OpT):DotT:=⟨c.place,c.when.getD c.place.toNat 0,o.no⟩
def doneOf (c:ComT) (o:OpT):DoneT:=⟨o,dotOf c o,wsum c.when⟩
def allDone (l:List ComT):List DoneT:=l.flatMap fun c=>c.ops.map (doneOf c)
def firsts:List DotT→List DoneT→List DoneT
 | _,[]=>[]
 | s,x::r=>if x.d∈s then firsts s r else x::firsts (x.d::s) r
theorem firsts_snoc:∀{s:List DotT} {l:List DoneT} {x:DoneT},firsts s (l++[x])=firsts s l++if x.d∈s∨x.d∈l.map (·.d)then []else [x]
 | s,[],x=>by simp[firsts]
 | s,y::r,x=>by
  rw[List.cons_append,firsts,firsts]
  by_cases hy:y.d∈s
  ·rw[if_pos hy,if_pos hy,firsts_snoc]
   congr 1
   by_cases hx:x.d∈s
   ·simp[hx]
   ·by_cases he:x.d=y.d
    ·rw[he]at hx;exact absurd hy hx
    ·simp[hx,he]
  ·rw[if_neg hy,if_neg hy,firsts_snoc]
   simp[or_assoc,or_left_comm]
theorem firsts_sub {s:List DotT} {l:List DoneT} {x:DoneT} (h:x∈firsts s l):x∈l∧x.d∉s:=by
 induction l generalizing s with
 | nil=>simp[firsts]at h
 | cons y r ih=>
  unfold firsts at h
  split at h
  ·have:=ih h
   exact⟨.tail _ this.1,this.2⟩
  ·rename_i hy
   rcases List.mem_cons.1 h with rfl|h
   ·exact⟨.head _,hy⟩
   ·have:=ih h
    exact⟨.tail _ this.1,fun hc=>this.2 (.tail _ hc)⟩
theorem firsts_nodup {s:List DotT} {l:List DoneT}:((firsts s l).map (·.d)).Nodup:=by
 induction l generalizing s with
 | nil=>simp[firsts]
 | cons y r ih=>
  unfold firsts
  split
  ·exact ih
  ·rw[List.map_cons,List.nodup_cons]
   refine⟨fun hm=>?_,ih⟩
   obtain⟨x,hx,he⟩:=List.mem_map.1 hm
   exact(firsts_sub hx).2 (by rw[he];exact .head _)
theorem firsts_has {s:List DotT} {l:List DoneT} {x:DoneT} (h:x∈l) (hs:x.d∉s):∃y∈firsts s l,y.d=x.d:=by
 induction l generalizing s with
 | nil=>simp at h
 | cons y r ih=>
  unfold firsts
  rcases List.mem_cons.1 h with rfl|h
  ·rw[if_neg hs]
   exact⟨x,.head _,rfl⟩
  ·split
   ·exact ih h hs
   ·by_cases he:x.d=y.d
    ·exact⟨y,.head _,he.symm⟩
    ·obtain⟨z,hz,hzd⟩:=ih (s:=y.d::s) h (by simp[hs,he])
     exact⟨z,.tail _ hz,hzd⟩
def doneKey (x:DoneT):List Int:=[x.w,x.d.place,x.d.time,x.d.no]
def doneCmp (a b:DoneT):Int:=orL [cmpI a.w b.w,cmpI a.d.place b.d.place,cmpI a.d.time b.d.time,cmpI a.d.no b.d.no]
theorem doneCmp_eq (a b:DoneT):doneCmp a b=lexC (doneKey a) (doneKey b):=by
 simp[doneCmp,doneKey,lexC,orL]
def doneLt (a b:DoneT):Bool:=decide (doneCmp a b<0)
theorem doneLt_iff {a b:DoneT}:doneLt a b=true↔lexC (doneKey a) (doneKey b)<0:=by simp[doneLt,doneCmp_eq]
theorem doneKey_dot {a b:DoneT} (h:doneKey a=doneKey b):a.d=b.d:=by
 simp only[doneKey,List.cons.injEq,and_true]at h
 cases ha:a.d;cases hb:b.d
 simp_all
theorem doneLt_trans {a b c:DoneT} (h1:doneLt a b=true) (h2:doneLt b c=true):doneLt a c=true:=by
 rw[doneLt_iff]at *
 exact lexC_trans h1 h2
theorem doneLt_asymm {a b:DoneT} (h1:doneLt a b=true) (h2:doneLt b a=true):False:=by
 rw[doneLt_iff]at *
 exact lexC_asymm h1 h2
theorem doneLt_tri (a b:DoneT):doneLt a b=true∨doneKey a=doneKey b∨doneLt b a=true:=by
 rw[doneLt_iff,doneLt_iff]
 exact lexC_tri rfl
def sortDone (l:List DoneT):List DoneT:=l.mergeSort fun x y=>!doneLt y x
def opsRaw (key:ByteArray) (l:List ComT):List DoneT:=(firsts [] (allDone l)).filter fun x=>decide (x.o.key=key)
def opsOf (key:ByteArray) (l:List ComT):List DoneT:=sortDone (opsRaw key l)
def kindOf (l:List DoneT):Int:=match l with
 | []=>0
 | x::_=>x.o.kind
def kindL (l:List DoneT):List DoneT:=l.filter fun x=>decide (x.o.kind=kindOf l)
def ofKey (key:ByteArray) (l:List ComT):List DoneT:=kindL (opsOf key l)
def goneB (l:List DoneT) (t:ByteArray) (d:DotT):Bool:=l.any fun r=>r.o.remove&&(decide (r.o.text=t)&&decide (d∈r.o.dots))
def liveL (l:List DoneT):List DoneT:=l.filter fun a=>!a.o.remove&&!goneB l a.o.text a.d
def textDots (l:List DoneT) (t:ByteArray):List DotT:=((liveL l).filter fun a=>decide (a.o.text=t)).map (·.d)
def bLt (a b:ByteArray):Bool:=decide (a.toList<b.toList)
def enterB:List ByteArray→ByteArray→List ByteArray
 | [],s=>[s]
 | x::l,s=>if bLt x s then x::enterB l s else if x=s then x::l else s::x::l
def setOf (l:List ByteArray):List ByteArray:=l.foldl enterB []
structure ValT where
 kind:Int
 text:ByteArray
 n:Int
 set:List ByteArray
def lastText (l:List DoneT):ByteArray:=l.foldl (fun _ x=>x.o.text) (ByteArray.mk #[])
def sumN (l:List DoneT):Int:=l.foldl (fun s x=>s+x.o.n) 0
def valOf (key:ByteArray) (l:List ComT):ValT:=
 ⟨kindOf (opsOf key l),if kindOf (opsOf key l)=1 then lastText (ofKey key l)else ByteArray.mk #[],if kindOf (opsOf key l)=2 then sumN (ofKey key l)else 0,if kindOf (opsOf key l)=3 then setOf ((liveL (ofKey key l)).map (·.o.text))else []⟩
end Go.Sx
end
section
namespace Go.Proofs.YtmkapocibaojdaaGreatDoor
open Go Go.Sx
set_option maxHeartbeats 4000000 in
theorem isNaN {w:World} {S:Nat→Prop} {x:Int}:Calls Tryz.prog 219 #[.int .i64 x] w fun e w'=>Ret [] w S w' e (.bool false) [] []:=by
 refine epG Tryz.func219 bd219 (args:=[.int .i64 x]) (S:=S) (G:=[]) (by kernel_rfl) (.nil _ _) ?_
 refine Zs [zR 0] [] [zB 2 false] ?_
 refine Zs (Rds 0 4) [0] [zB 2 (x != x)] ?_
 refine Yr [[]] (.bool (x != x)) fun a w s=>?_
 have e1:false=!decide (x=x):=by simp
 rw[e1]
 exact s.ret (by simp) [] [] rfl rfl
set_option maxHeartbeats 4000000 in
theorem cmpC {w:World} {S:Nat→Prop} {x y:Int}:Calls Tryz.prog 199 #[.int .i64 x,.int .i64 y] w fun e w'=>Ret [] w S w' e (.int .i64 (cmpI x y)) [] []:=by
 refine epG Tryz.func199 bd199 (args:=[.int .i64 x,.int .i64 y]) (S:=S) (G:=[]) (by kernel_rfl) (.nil _ _) ?_
 refine Zs [zR 0] [] [zI 4 0] ?_
 refine jS [(0,true),(1,false),(2,true)] [] ?_
 refine Ya [zR 0] [] [zI 7 x] ?_
 refine Yc 219 #[nI x] (some 8) fun w S hG=>?_
 refine(isNaN (S:=S)).mono ?_
 rintro e1 w1 hR
 refine⟨_,_,_,hR,?_⟩
 try simp only[aQ]
 refine Ya [zR 2] [8,7] [zB 5 false] ?_
 refine JR_end ?_
 refine jS [(0,true),(1,false),(2,true)] [] ?_
 refine Ya [zR 0] [] [zI 9 y] ?_
 refine Yc 219 #[nI y] (some 10) fun w S hG=>?_
 refine(isNaN (S:=S)).mono ?_
 rintro e2 w2 hR
 refine⟨_,_,_,hR,?_⟩
 try simp only[aQ]
 refine Ya [zR 2] [10,9] [zB 6 false] ?_
 refine JR_end (J_seq ?_)
 refine Zs [zR 0] [5] [zB 11 false] ?_
 refine cF ?_
 refine J_skip (J_seq ?_)
 refine Zs [zR 0] [11,6] [zB 13 false] ?_
 refine cF ?_
 refine J_skip (J_seq ?_)
 refine Zs (Rds 0 3) [13] [zB 16 (decide (x<y))] ?_
 refine cC (t:=decide (x<y)) (fun h1=>?_) (fun h1=>?_)
 ·refine J_seq ?_
  refine Za [zR 0] [16] [zI 4 (-1)] ?_
  refine Yr [[]] (nI (-1)) fun a w s=>?_
  have e3:cmpI x y = -1:=by simp at h1;simp[cmpI,h1]
  rw[e3]
  exact s.ret (by simp) [] [] rfl rfl
 ·refine J_skip ?_
  refine J_seq ?_
  refine Zs (Rds 0 3) [16,0,1] [zB 19 (decide (x>y))] ?_
  refine cC (t:=decide (x>y)) (fun h2=>?_) (fun h2=>?_)
  ·refine J_seq ?_
   refine Za [zR 0] [19] [zI 4 1] ?_
   refine Yr [[]] (nI 1) fun a w s=>?_
   have e3:cmpI x y=1:=by simp at h1 h2;rw[cmpI,if_neg (by omega),if_pos (by omega)]
   rw[e3]
   exact s.ret (by simp) [] [] rfl rfl
  ·refine J_skip ?_
   refine Zs [zR 0] [19] [] ?_
   refine Yr [[]] (nI 0) fun a w s=>?_
   have e3:cmpI x y=0:=by simp at h1 h2;rw[cmpI,if_neg (by omega),if_neg (by omega)]
   rw[e3]
   exact s.ret (by simp) [] [] rfl rfl
set_option maxHeartbeats 4000000 in
theorem orC {w:World} {S:Nat→Prop} {a:Option Addr} {n c:Nat} {xs:List Int} (ha:Rep w S (.slice a n c) (dInts xs)) (hl:xs.length≤1000000) :
  Calls Tryz.prog 198 #[.slice a n c] w fun e w'=>Ret [] w S w' e (.int .i64 (orL xs)) [] []:=by
 obtain rfl:=rep_ints_len ha
 refine epG Tryz.func198 bd198 (args:=[.slice a xs.length c]) (G:=[(_,dInts xs)]) (by kernel_rfl) (.cons ha (.nil _ _)) ?_
 refine Zs [zR 0] [] [zI 2 0] ?_
 refine Zs [zR 0] [] [zI 3 0] ?_
 refine J_seq ?_
 refine Zs (Rds 0 3) [0] [zS 6 a xs.length c,zI 7 (↑xs.length:Int),zI 8 0] ?_
 refine J_block ?_
 refine J_loopx (fun i:Int=>[zI 2 0,zI 3 0,zS 6 a xs.length c,zI 7 (↑xs.length:Int),zI 8 i]) (fun i:Int=>[]) (fun i:Int=>[]) (fun i:Int=>[(.slice a xs.length c,(dInts xs))]) (fun i:Int=>(xs.length - i).toNat) (fun i:Int=>(0≤i∧i≤xs.length∧∀j:Nat,j<i.toNat→∀t,xs[j]?=some t→t=0)) 0 [2,3,6,7,8] [] [] [0] ?_ (by kernel_rfl) rfl rfl rfl ?_
 ·exact⟨by simp,by omega,by simp⟩
 rintro i ⟨hi0,hi,hno⟩
 refine Zs [zR 0] [] [zB 9 (decide (i<(↑xs.length:Int)))] ?_
 refine J_seq ?_
 refine cC (t:=decide (i<(↑xs.length:Int))) (fun hlt=>?_) (fun hlt=>?_)
 ·have hlt2:i<xs.length:=by simpa using hlt
  obtain⟨x,hx⟩:∃x,xs[i.toNat]?=some x:=⟨_,List.getElem?_eq_getElem (by omega)⟩
  refine J_read0 0 rfl i.toNat (map_at hx) (by kernel_rfl) (fun b1 off1 cs1 ty1 fz1 ha1 hrd1=>?_)
  cases ha1
  have hrd1_0:=rd0 (hrd1 0 _ rfl)
  try simp only[aQ]
  refine J_skip (J_seq (J_block ?_))
  refine Zt [.rd 0 [] 0 2,.rd 1 [.r 0 (some (nI x))] 0 0,zR 2] [9] [zI 5 x] (oC hi0 (oC hlt2 (oC hrd1_0 oN))) ?_
  refine Zs (Rds 0 3) [] [zB 14 (x != 0)] ?_
  refine cC (t:=x != 0) (fun hb=>?_) (fun hb=>?_)
  ·refine J_seq ?_
   refine Za [zR 0,zR 1] [14] [zI 2 x] ?_
   refine Yr [[]] (nI x) fun a w s=>?_
   rw[orL_at hno hx (by simpa using hb)]
   exact s.ret (by simp) [] [] rfl rfl
  ·refine J_skip ?_
   refine J_eb ?_
   refine Zp [.rd 0 [] 0 1,zR 1] [14] [zI 8 (i+1)] (oC (show IntKind.i64.wrap (i+1)=i+1 from wrap_i64 (by omega) (by omega)) oN) ?_
   refine J_backx (i+1) [2,3,6,7,8] [] [] [0] ?_ ?_ (by kernel_rfl) rfl rfl rfl
   ·refine⟨by omega,by omega,fun j hj t ht=>?_⟩
    by_cases hji:j=i.toNat
    ·subst hji
     rw[hx]at ht
     cases ht
     simpa using hb
    ·exact hno j (by omega) t ht
   ·omega
 ·refine J_exit rfl ?_
  refine Zs [zR 0,zR 1] [9,3,6,7,8] [] ?_
  refine Yr [[]] (nI 0) fun a w s=>?_
  rw[orL_none fun j t ht=>hno j (by have:=(List.getElem?_eq_some_iff.1 ht).1;simp at hlt;omega) t ht]
  exact s.ret (by simp) [] [] rfl rfl
end Go.Proofs.YtmkapocibaojdaaGreatDoor
namespace Go.Proofs.YtmkapocibaojdaaGreatDoor
open Go Go.Sx
abbrev doneA (x:DoneT) (v:Value):Value:=.agg #[.int .i64 x.o.no,.string x.o.key,.int .i64 x.o.kind,.string x.o.text,.int .i64 x.o.n,.bool x.o.remove,v,.int .i64 x.d.place,.int .i64 x.d.time,.int .i64 x.d.no,.int .i64 x.w]
set_option maxHeartbeats 4000000 in
theorem cmpDone {w:World} {S:Nat→Prop} {x y:DoneT} {v1 v2:Value} (o1:v1.oneCell'=true) (o2:v2.oneCell'=true):Calls Tryz.prog 197 #[doneA x v1,doneA y v2] w fun e w'=>Ret [] w S w' e (.int .i64 (doneCmp x y)) [] []:=by
 refine epG Tryz.func197 bd197 (args:=[doneA x v1,doneA y v2]) (S:=S) (G:=[]) (by kernel_rfl) (.nil _ _) ?_
 refine Zv [.wr 0 [] 0,.wr 1 [] 0,zR 2] [] [0,1] (fun nu1=>[zP 2 (nu1 0),zP 3 (nu1 1),zI 4 0]) o0 (fun nu1=>[(nu1 0,.cells #[nI x.o.no,.string x.o.key,nI x.o.kind,.string x.o.text,nI x.o.n,.bool x.o.remove,v1,nI x.d.place,nI x.d.time,nI x.d.no,nI x.w] 271 (0,0)),(nu1 1,.cells #[nI y.o.no,.string y.o.key,nI y.o.kind,.string y.o.text,nI y.o.n,.bool y.o.remove,v2,nI y.d.place,nI y.d.time,nI y.d.no,nI y.w] 271 (0,0))]) (fun nu1=>?_)
 refine jS [(0,true),(1,true),(2,true),(3,true),(5,true),(6,true),(7,true),(8,true),(9,true),(10,true),(12,true),(13,true),(14,true),(15,true),(16,true),(17,true),(19,true),(20,true),(21,true),(22,true),(23,true),(24,true),(4,false),(11,false),(18,false),(25,false),(26,false),(27,false),(28,true)] [] ?_
 refine Ya [zR 0,.rd 1 [.o 0 none] 0 0,zR 2,.rd 3 [.o 1 none] 0 0,zR 5,zR 6,.rd 7 [.o 0 none] 0 0,zR 8,zR 9,.rd 10 [.o 1 none] 0 0,zR 12,zR 13,.rd 14 [.o 0 none] 0 0,zR 15,zR 16,.rd 17 [.o 1 none] 0 0,zR 19,zR 20,.rd 21 [.o 0 none] 0 0,zR 22,zR 23,.rd 24 [.o 1 none] 0 0] [2,3] [zI 6 x.w,zI 8 y.w,zI 12 x.d.place,zI 15 y.d.place,zI 19 x.d.time,zI 22 y.d.time,zI 26 x.d.no,zI 29 y.d.no] ?_
 all_goals first|assumption|skip
 refine Yc 199 #[nI x.w,nI y.w] (some 9) fun w S hG=>?_
 refine(cmpC (S:=S)).mono ?_
 rintro e1 w1 hR
 refine⟨_,_,_,hR,?_⟩
 try simp only[aQ]
 refine Yc 199 #[nI x.d.place,nI y.d.place] (some 16) fun w S hG=>?_
 refine(cmpC (S:=S)).mono ?_
 rintro e2 w2 hR
 refine⟨_,_,_,hR,?_⟩
 try simp only[aQ]
 refine Yc 199 #[nI x.d.time,nI y.d.time] (some 23) fun w S hG=>?_
 refine(cmpC (S:=S)).mono ?_
 rintro e3 w3 hR
 refine⟨_,_,_,hR,?_⟩
 try simp only[aQ]
 refine Yc 199 #[nI x.d.no,nI y.d.no] (some 30) fun w S hG=>?_
 refine(cmpC (S:=S)).mono ?_
 rintro e4 w4 hR
 refine⟨_,_,_,hR,?_⟩
 try simp only[aQ]
 refine Ym [.wr 26 [] 0] [30,23,16,9,6,8,12,15,19,22,26,29] (fun nu2=>[zS 31 (sA (nu2 0) 0) 4 4]) o0 (fun nu2=>[(nu2 0,.cells #[nI (cmpI x.w y.w),nI (cmpI x.d.place y.d.place),nI (cmpI x.d.time y.d.time),nI (cmpI x.d.no y.d.no)] 3 (0,0))]) [] (fun nu2=>?_)
 refine JR_data (size:=1) 2 eI [cmpI x.w y.w,cmpI x.d.place y.d.place,cmpI x.d.time y.d.time,cmpI x.d.no y.d.no] 4 rfl (by kernel_rfl) (by decide) (by intro x _;rfl) (by simp) ⟨.inl ⟨rfl,rfl⟩,⟨.inl ⟨rfl,rfl⟩,⟨.inl ⟨rfl,rfl⟩,⟨.inl ⟨rfl,rfl⟩,trivial⟩⟩⟩⟩ ?_
 refine Yc 198 #[.slice (sA (nu2 0) 0) 4 4] (some 32) fun w S hG=>?_
 refine(orC (hG.at 0 rfl) (by simp)).mono ?_
 rintro e7 w7 hR
 refine⟨_,_,_,hR,?_⟩
 try simp only[aQ]
 refine Ya [zR 28] [32,31] [zI 4 (orL [cmpI x.w y.w,cmpI x.d.place y.d.place,cmpI x.d.time y.d.time,cmpI x.d.no y.d.no])] ?_
 refine JR_end ?_
 refine Yr [[]] (nI (orL [cmpI x.w y.w,cmpI x.d.place y.d.place,cmpI x.d.time y.d.time,cmpI x.d.no y.d.no])) fun a w s=>?_
 exact s.ret (by simp) [] [] rfl rfl
end Go.Proofs.YtmkapocibaojdaaGreatDoor
end
section
namespace Go.Proofs.YtmkapocibaojdaaGreatDoor
open Go Go.Sx Go.MapKept
def okDot (v:Value):Prop:=∃a b c:Int,v=.agg #[.int .i64 a,.int .i64 b,.int .i64 c]
theorem sameBits_dot (n:Nat) (a b c:Int):Instr.sameBits (n+2) (.agg #[.int .i64 a,.int .i64 b,.int .i64 c]) (.agg #[.int .i64 a,.int .i64 b,.int .i64 c])=true:=by
 simp[Instr.sameBits]
set_option maxHeartbeats 4000000 in
theorem checkKey_dot (e:Bool) (n:Nat) (a b c:Int) (w:World):(Instr.checkKey e (n+2) 177 (.agg #[.int .i64 a,.int .i64 b,.int .i64 c])).run Tryz.prog w=.ok () w:=by
 have hi:∀(x:Int) w,(Instr.checkKey e (n+1) 3 (.int .i64 x)).run Tryz.prog w=.ok () w:=fun x w=>run_checkKey Tryz.underlying3 (by simp[IsKey]) e n
 rw[Instr.checkKey]
 simp[run_underlying Tryz.underlying177,hi,partI Tryz.underlying3,Result.andThen]
theorem keyOk_9:KeyOk Tryz.prog 9 (IsKey .string):=.plain Tryz.underlying9
theorem keyOk_177:KeyOk Tryz.prog 177 okDot:=by
 refine .asking Tryz.underlying177 (fun x y _ _=>rfl) (fun e k hk w=>?_) (fun x y hx hy=>?_) fun k hk=>?_
 ·obtain⟨a,b,c,rfl⟩:=hk
  exact checkKey_dot e 9998 a b c w
 ·obtain⟨a,b,c,rfl⟩:=hx
  obtain⟨a',b',c',rfl⟩:=hy
  refine⟨decide (a=a'∧b=b'∧c=c'),fun w=>eqDot 9998 a b c a' b' c' w,?_⟩
  simp
 ·obtain⟨a,b,c,rfl⟩:=hk
  exact sameBits_dot 9998 a b c
end Go.Proofs.YtmkapocibaojdaaGreatDoor
namespace Go.Proofs.YtmkapocibaojdaaGreatDoor
open Go Go.Sx
def firstLen (l:List ComT):Nat:=match l with
 | []=>0
 | c::_=>c.when.length
def comErrAt (l:List ComT) (i:Nat):Nat:=match l[i]? with
 | none=>0
 | some c=>if (comFault c).code≠0 then (comFault c).code else if c.when.length≠firstLen l then 3 else 0
def scanF (f:Nat→Nat):Nat→Nat→FT
 | 0,_=>⟨0,-1⟩
 | n+1,i=>if f i=0 then scanF f n (i+1)else ⟨f i,i⟩
theorem scanF_from {f:Nat→Nat}:∀(n k i:Nat),k≤i→(∀j,k≤j→j<i→f j=0)→(i=k+n→scanF f n k=⟨0,-1⟩)∧(i<k+n→f i≠0→scanF f n k=⟨f i,i⟩)
 | 0,k,i,hk,_=>⟨fun _=>rfl,fun h=>by omega⟩
 | n+1,k,i,hk,h=>by
  rcases Nat.eq_or_lt_of_le hk with rfl|hlt
  ·refine⟨fun he=>by omega,fun _ hne=>?_⟩
   rw[scanF,if_neg hne]
  ·obtain⟨h1,h2⟩:=scanF_from n (k+1) i hlt fun j hj1 hj2=>h j (by omega) hj2
   rw[scanF,if_pos (h k (Nat.le_refl _) hlt)]
   exact⟨fun he=>h1 (by omega),fun he=>h2 (by omega)⟩
def listFault (l:List ComT):FT:=scanF (comErrAt l) l.length 0
def valFault (key:ByteArray) (l:List ComT):FT:=if nameOk key=false then ⟨4,-1⟩else listFault l
theorem listFault_at {l:List ComT} {i:Nat} {k:Nat} (h:∀j,j<i→comErrAt l j=0) (hi:i<l.length) (hk:comErrAt l i=k) (h0:k≠0):listFault l=⟨k,i⟩:=by
 rw[listFault,(scanF_from l.length 0 i (Nat.zero_le _) fun j _ hj=>h j hj).2 (by omega) (by rw[hk];exact h0),hk]
theorem listFault_none {l:List ComT} (h:∀j,j<l.length→comErrAt l j=0):listFault l=⟨0,-1⟩:=
 (scanF_from l.length 0 l.length (Nat.zero_le _) fun j _ hj=>h j hj).1 (by omega)
theorem listFault_zero {l:List ComT} (h:(listFault l).code=0):∀j,j<l.length→comErrAt l j=0:=by
 intro j
 induction j using Nat.strongRecOn with
 | ind j ih=>
  intro hj
  rcases Nat.eq_zero_or_pos (comErrAt l j)with h0|h0
  ·exact h0
  ·have:=listFault_at (fun i hi=>ih i hi (by omega)) hj rfl (by omega)
   rw[this]at h
   exact h
theorem comErrAt_own {l:List ComT} {i:Nat} {c:ComT} (h:l[i]?=some c) (he:(comFault c).code≠0):comErrAt l i=(comFault c).code:=by
 simp only[comErrAt,h,if_pos he]
theorem comErrAt_len {l:List ComT} {i:Nat} {c:ComT} (h:l[i]?=some c) (he:(comFault c).code=0) (hl:c.when.length≠firstLen l):comErrAt l i=3:=by
 simp only[comErrAt,h]
 rw[if_neg (by simp[he]),if_pos hl]
theorem comErrAt_fine {l:List ComT} {i:Nat} {c:ComT} (h:l[i]?=some c) (he:(comFault c).code=0) (hl:c.when.length=firstLen l):comErrAt l i=0:=by
 simp only[comErrAt,h]
 rw[if_neg (by simp[he]),if_neg (by simp[hl])]
theorem comErrAt_zero {l:List ComT} {i:Nat} {c:ComT} (h:l[i]?=some c) (he:comErrAt l i=0):(comFault c).code=0∧c.when.length=firstLen l:=by
 simp only[comErrAt,h]at he
 split at he
 ·exact absurd he ‹_›
 ·split at he
  ·cases he
  ·rename_i h1 h2
   exact⟨by simpa using h1,by simpa using h2⟩
theorem vecErr_le (xs:List Int):vecErr xs≤12:=by
 unfold vecErr
 split
 ·omega
 ·split <;> omega
theorem comFault_code (c:ComT):(comFault c).code≤12:=by
 unfold comFault
 split
 ·exact vecErr_le _
 ·split
  ·simp
  ·split
   ·simp
   ·split
    ·simp
    ·exact opsFault_code _ _ _ _
structure Right (c:ComT):Prop where
 vec:vecErr c.when=0
 p0:0≤c.place
 p1:c.place<c.when.length
 t0:c.when[c.place.toNat]?≠some 0
 o1:1≤c.ops.length
 o2:c.ops.length≤12
 op:opsFault c.ops c.when.length c.ops.length 0=comFault c
theorem right_of {c:ComT} (h:(comFault c).code=0):Right c:=by
 have key:∀{n:Nat} {a:Int},comFault c=⟨n,a⟩→n≠0→False:=fun he h0=>by rw[he]at h;exact h0 h
 by_cases h1:vecErr c.when≠0
 ·exact(key (by rw[comFault,if_pos h1]) h1).elim
 ·by_cases h2:c.place<0∨c.when.length≤c.place∨12<c.ops.length
  ·exact(key (n:=2) (a:=-1) (by rw[comFault,if_neg h1,if_pos h2]) (by decide)).elim
  ·by_cases h3:c.when[c.place.toNat]?=some 0
   ·exact(key (n:=2) (a:=-1) (by rw[comFault,if_neg h1,if_neg h2,if_pos h3]) (by decide)).elim
   ·by_cases h4:c.ops.length=0
    ·exact(key (n:=3) (a:=-1) (by rw[comFault,if_neg h1,if_neg h2,if_neg h3,if_pos h4]) (by decide)).elim
    ·exact⟨by simpa using h1,by omega,by omega,h3,by omega,by omega,by rw[comFault,if_neg h1,if_neg h2,if_neg h3,if_neg h4]⟩
theorem rights {l:List ComT} {i:Nat} (h:∀j,j<i→comErrAt l j=0) (hi:i≤l.length):∀c∈l.take i,Right c:=fun c hc=>by
 obtain⟨j,hj⟩:=List.getElem?_of_mem hc
 rw[List.getElem?_take]at hj
 split at hj
 ·rename_i hji
  exact right_of (comErrAt_zero hj (h j hji)).1
 ·cases hj
theorem allDone_len {l:List ComT} (h:∀c∈l,Right c):(allDone l).length≤12*l.length:=by
 induction l with
 | nil=>simp[allDone]
 | cons c l ih=>
  have h1:=(h c (.head _)).o2
  have h2:=ih fun c hc=>h c (.tail _ hc)
  simp only[allDone,List.flatMap_cons,List.length_append,List.length_map,List.length_cons]at h2 ⊢
  omega
theorem firsts_len (s:List DotT) (l:List DoneT):(firsts s l).length≤l.length:=by
 induction l generalizing s with
 | nil=>simp[firsts]
 | cons x r ih=>
  unfold firsts
  split
  ·have:=ih s;simp;omega
  ·have:=ih (x.d::s);simp;omega
theorem allDone_snoc {l:List ComT} {i:Int} {c:ComT} (hi:0≤i) (hc:l[i.toNat]?=some c):allDone (l.take i.toNat)++c.ops.map (doneOf c)=allDone (l.take (i+1).toNat):=by
 rw[←take_snoc hi hc]
 simp[allDone]
def keyFirst (key:ByteArray) (p:List DoneT):List DoneT:=(firsts [] p).filter fun x=>decide (x.o.key=key)
theorem keyFirst_len (key:ByteArray) (p:List DoneT):(keyFirst key p).length≤p.length:=
 Nat.le_trans (List.length_filter_le _ _) (firsts_len _ _)
theorem keyFirst_snoc {key:ByteArray} {p:List DoneT} {x:DoneT}:keyFirst key (p++[x])=keyFirst key p++if x.d∉p.map (·.d)∧x.o.key=key then [x]else []:=by
 unfold keyFirst
 rw[firsts_snoc,List.filter_append]
 congr 1
 by_cases h1:x.d∈p.map (·.d)
 ·simp[h1]
 ·by_cases h2:x.o.key=key
  ·simp[h1,h2]
  ·simp[h1,h2]
theorem keyFirst_nodup (key:ByteArray) (p:List DoneT):((keyFirst key p).map (·.d)).Nodup:=
 (List.filter_sublist.map _).nodup firsts_nodup
open Classical in
noncomputable def dotSet (ds:List DotT):Value→Option Value:=fun v=>if ∃d∈ds,v=.agg #[.int .i64 d.place,.int .i64 d.time,.int .i64 d.no]then some (.bool true)else none
theorem dotSet_in {ds:List DotT} {d:DotT} (h:d∈ds):dotSet ds (.agg #[.int .i64 d.place,.int .i64 d.time,.int .i64 d.no])=some (.bool true):=by
 rw[dotSet,if_pos ⟨d,h,rfl⟩]
theorem dotSet_out {ds:List DotT} {d:DotT} (h:d∉ds):dotSet ds (.agg #[.int .i64 d.place,.int .i64 d.time,.int .i64 d.no])=none:=by
 rw[dotSet,if_neg]
 rintro⟨d',h1,h2⟩
 apply h
 have:d=d':=by
  cases d;cases d'
  simp at h2
  simp[h2]
 rw[this]
 exact h1
theorem dotSet_snoc {ds:List DotT} {d:DotT} (v:Value):fput (dotSet ds) (.agg #[.int .i64 d.place,.int .i64 d.time,.int .i64 d.no]) (.bool true) v=dotSet (ds++[d]) v:=by
 unfold fput dotSet
 by_cases hv:v=.agg #[.int .i64 d.place,.int .i64 d.time,.int .i64 d.no]
 ·rw[if_pos hv,if_pos ⟨d,by simp,hv⟩]
 ·rw[if_neg hv]
  by_cases h:∃d∈ds,v=.agg #[.int .i64 d.place,.int .i64 d.time,.int .i64 d.no]
  ·obtain⟨d',h1,h2⟩:=h
   rw[if_pos ⟨d',h1,h2⟩,if_pos ⟨d',by simp[h1],h2⟩]
  ·rw[if_neg h,if_neg]
   rintro⟨d',h1,h2⟩
   rcases List.mem_append.1 h1 with h1|h1
   ·exact h ⟨d',h1,h2⟩
   ·rw[List.mem_singleton]at h1
    subst h1
    exact hv h2
theorem dotSet_nil (v:Value):(fun _=>none:Value→Option Value) v=dotSet [] v:=by simp[dotSet]
def FVal (w:World) (S:Nat→Prop) (w':World) (e:Ending) (er:Nat→Addr) (f:FT) (mk:Value→Value):Prop:=
 (f.at' = -1∧∃v,Ret [] w S w' e (mk v) [] []∧ErrIs 390 er f.code v) ∨
 (1≤f.code∧0≤f.at'∧∃pb,Ret [] w S w' e (mk (.iface 202 (.pointer (some ⟨pb,0,none⟩)))) [] [(.pointer (some ⟨pb,0,none⟩),.ptr [.v (.int .i64 f.at'),.v (.iface 390 (.pointer (some (er f.code))))])])
end Go.Proofs.YtmkapocibaojdaaGreatDoor
end
