/- Part 5 of the texts of a claim: Vec1 Vec2 Vec3 Errs Code OpErr2. -/
import Derived.Test.YtmkapocibaojdaaGreatDoorProg
import Derived.WalkKit
import Derived.LaidEql
import Derived.Stop.Asserts
import Derived.RowKitTokens
import Derived.Test.YtmkapocibaojdaaGreatDoorTj4
section
namespace Go.Proofs.YtmkapocibaojdaaGreatDoor
open Go Go.Sx
abbrev globs (er:Nat→Addr):List (Value×D):=[(.nilIface,.v .nilIface),dE 390 er 0 2,dE 390 er 1 3]
def badT (t:Int):Bool:=decide (t<0)||decide (1099511627776<t)
def vecErr (xs:List Int):Nat:=if xs.length<1∨6<xs.length then 3 else if xs.any badT then 2 else 0
set_option maxHeartbeats 4000000 in
theorem check1 {w:World} {S:Nat→Prop} {t:Int}:Calls Tryz.prog 183 #[.int .i64 t] w fun e w'=>Ret [] w S w' e (.bool (badT t)) [] []:=by
 refine epG Tryz.func183 bd183 (args:=[.int .i64 t]) (G:=[]) (by kernel_rfl) (AllG.nil w S) ?_
 refine Zs [zR 0] [] [zB 2 false] ?_
 refine Zs (Rds 0 3++[.rd 3 [] 2 0,.rd 4 [] 2 0,.rd 5 [] 0 3,zR 6]) [0] [zB 2 (decide (t<0)||decide (t>1099511627776))] ?_
 refine Yr [[]] (.bool (decide (t<0)||decide (t>1099511627776))) fun a w s=>?_
 exact s.ret (by simp) [] [] rfl rfl
set_option maxHeartbeats 4000000 in
theorem indexBad {w:World} {S:Nat→Prop} {a:Option Addr} {n c:Nat} {xs:List Int} (h:Rep w S (.slice a n c) (dInts xs)) (hl:xs.length≤1000000) :
  Calls Tryz.prog 214 #[.slice a n c,.func (.func 183) #[] #[]] w fun e w'=>∃r,Ret [] w S w' e (.int .i64 r) [] []∧decide (0≤r)=xs.any badT:=by
 obtain rfl:=rep_ints_len h
 refine epG Tryz.func214 bd214 (args:=[.slice a xs.length c,.func (.func 183) #[] #[]]) (G:=[(_,dInts xs)]) (by kernel_rfl) (.cons h (.nil _ _)) ?_
 refine Zs [zR 0] [] [zI 4 0] ?_
 refine J_seq ?_
 refine Zs (Rds 0 3) [] [zI 7 (↑xs.length:Int),zI 8 0] ?_
 refine J_block ?_
 refine J_loopx (fun i:Int=>[zS 0 a xs.length c,zV 1 (.func (.func 183) #[] #[]),zI 4 0,zI 7 (↑xs.length:Int),zI 8 i]) (fun i:Int=>[]) (fun i:Int=>[]) (fun i:Int=>[(.slice a xs.length c,(dInts xs))]) (fun i:Int=>(xs.length - i).toNat) (fun i:Int=>(0≤i∧i≤xs.length∧∀j:Nat,j<i.toNat→∀t,xs[j]?=some t→badT t=false)) 0 [0,1,4,7,8] [] [] [0] ?_ (by kernel_rfl) rfl rfl rfl ?_
 ·exact⟨by simp,by omega,by simp⟩
 rintro i ⟨hi0,hi,hno⟩
 refine Zs [zR 0] [] [zB 9 (decide (i<(↑xs.length:Int)))] ?_
 refine J_seq ?_
 refine cC (t:=decide (i<(↑xs.length:Int))) (fun hlt=>?_) (fun hlt=>?_)
 ·have hlt2:i<xs.length:=by simpa using hlt
  obtain⟨x,hx⟩:∃x,xs[i.toNat]?=some x:=⟨_,List.getElem?_eq_getElem (by omega)⟩
  refine J_read0 0 rfl i.toNat (map_at hx) (by kernel_rfl) (fun b1 off1 cs1 ty1 fz1 ha1 hrd1=>?_)
  cases ha1
  have hrd1_0:=rd0 (hrd1 0 _ rfl)
  try simp only[aQ]
  refine J_skip (J_seq (J_block ?_))
  refine Zs [zR 0,zR 1] [9] [zI 5 i] ?_
  refine jS [(0,true),(1,true),(2,true),(3,true),(4,true),(5,false)] [] ?_
  refine Yp (Rds 0 3++[.rd 3 [] 0 2,.rd 4 [.r 0 (some (nI x))] 0 0]) [] [zV 11 (.func (.func 183) #[] #[]),zI 15 x] (oC hi0 (oC hlt2 (oC hrd1_0 oN))) ?_
  refine Yc 183 #[nI x] (some 16) fun w S hG=>?_
  refine(check1 (S:=S)).mono ?_
  rintro e w2 hR
  refine⟨_,_,_,hR,?_⟩
  try simp only[aQ]
  refine JR_end ?_
  refine cC (t:=badT x) (fun hb=>?_) (fun hb=>?_)
  ·refine J_seq ?_
   refine Za [zR 0,zR 1] [16] [zI 4 i] ?_
   refine Yr [[]] (nI i) fun a w s=>?_
   refine⟨_,s.ret (by simp) [] [] rfl rfl,?_⟩
   rw[List.any_eq_true.2 ⟨x,List.mem_of_getElem? hx,hb⟩]
   simpa using hi0
  ·refine J_skip ?_
   refine J_eb ?_
   refine Zp [.rd 0 [] 0 1,zR 1] [16] [zI 8 (i+1)] (oC (show IntKind.i64.wrap (i+1)=i+1 from wrap_i64 (by omega) (by omega)) oN) ?_
   refine J_backx (i+1) [0,1,4,7,8] [] [] [0] ?_ ?_ (by kernel_rfl) rfl rfl rfl
   ·refine⟨by omega,by omega,fun j hj t ht=>?_⟩
    by_cases hji:j=i.toNat
    ·subst hji
     rw[hx]at ht
     cases ht
     exact hb
    ·exact hno j (by omega) t ht
   ·omega
 ·refine J_exit rfl ?_
  refine Zs [zR 0] [9,0,1,7,8] [zI 4 (-1)] ?_
  refine Yr [[]] (nI (-1)) fun a w s=>?_
  refine⟨_,s.ret (by simp) [] [] rfl rfl,?_⟩
  have e:xs.any badT=false:=by
   rw[List.any_eq_false]
   intro t ht
   obtain⟨j,hj⟩:=List.getElem?_of_mem ht
   have hjl:=(List.getElem?_eq_some_iff.1 hj).1
   simp[hno j (by simp at hlt;omega) t hj]
  rw[e]
  decide
set_option maxHeartbeats 4000000 in
theorem containsBad {w:World} {S:Nat→Prop} {a:Option Addr} {n c:Nat} {xs:List Int} (h:Rep w S (.slice a n c) (dInts xs)) (hl:xs.length≤1000000) :
  Calls Tryz.prog 182 #[.slice a n c,.func (.func 183) #[] #[]] w fun e w'=>Ret [] w S w' e (.bool (xs.any badT)) [] []:=by
 refine epG Tryz.func182 bd182 (args:=[.slice a n c,.func (.func 183) #[] #[]]) (G:=[(_,dInts xs)]) (by kernel_rfl) (.cons h (.nil _ _)) ?_
 refine Zs [zR 0] [] [zB 4 false] ?_
 refine jS [(0,true),(1,true),(2,false),(3,true),(4,true)] [] ?_
 refine Ya [zR 0,zR 1] [0,1] [zS 5 a n c,zV 6 (.func (.func 183) #[] #[])] ?_
 refine Yc 214 #[.slice a n c,.func (.func 183) #[] #[]] (some 7) fun w S hG=>?_
 refine(indexBad (hG.at 0 rfl) hl).mono ?_
 rintro e w2 ⟨r,hR,hr⟩
 refine⟨_,_,_,hR,?_⟩
 try simp only[aQ]
 refine Ya [zR 3,zR 4] [7,5,6] [zB 4 (decide (r≥0))] ?_
 refine JR_end ?_
 refine Yr [[]] (.bool (decide (r≥0))) fun a w s=>?_
 rw[←hr]
 exact s.ret (by simp) [] [] rfl rfl
set_option maxHeartbeats 4000000 in
theorem vcheck {w:World} {S:Nat→Prop} {er:Nat→Addr} {a:Option Addr} {n c:Nat} {xs:List Int} (hE:AllG w S (globs er)) (h:Rep w S (.slice a n c) (dInts xs)) (hl:xs.length≤1000000) :
  Calls Tryz.prog 141 #[.slice a n c] w fun e w'=>∃v,Ret [] w S w' e v [] []∧ErrIs 390 er (vecErr xs) v:=by
 obtain rfl:=rep_ints_len h
 refine epG Tryz.func141 bd141 (args:=[.slice a xs.length c]) (G:=globs er++[(_,dInts xs)]) (by kernel_rfl) (hE.app (.cons h (.nil _ _))) ?_
 refine J_glob 1 rfl (fun csg1 tyg1 fzg1 hglob1=>?_)
 refine J_glob 2 rfl (fun csg2 tyg2 fzg2 hglob2=>?_)
 try simp only[aQ]
 refine Zs [zR 0] [] [zV 2 .nilIface] ?_
 refine J_seq ?_
 refine Zs (Rds 0 4++[.rd 4 [] 2 0,.rd 5 [] 2 0,.rd 6 [] 2 0,.rd 7 [] 0 3]) [] [zB 10 (decide ((↑xs.length:Int)<1)||decide ((↑xs.length:Int)>6))] ?_
 refine cC (t:=decide ((↑xs.length:Int)<1)||decide ((↑xs.length:Int)>6)) (fun hn=>?_) (fun hn=>?_)
 ·refine J_seq ?_
  refine Zp [.rd 0 [.r 1 (some (.iface 390 (.pointer (some (er 3)))))] 0 0,zR 1] [10] [zV 2 (.iface 390 (.pointer (some (er 3))))] (oC hglob2 oN) ?_
  refine Yr [[]] (.iface 390 (.pointer (some (er 3)))) fun a w s=>?_
  refine⟨_,s.ret (by simp) [] [] rfl rfl,.inr ⟨?_,?_⟩⟩ <;> rw[vecErr,if_pos (by simp at hn;omega)]
  ·decide
 ·have hn2:¬(xs.length<1∨6<xs.length):=by simp at hn;omega
  refine J_skip (J_seq ?_)
  refine jS [(0,true),(1,false)] [] ?_
  refine Ya [zR 0] [10,0] [zS 12 a xs.length c] ?_
  refine Yc 182 #[.slice a xs.length c,.func (.func 183) #[] #[]] (some 13) fun w S hG=>?_
  refine(containsBad (hG.at 3 rfl) hl).mono ?_
  rintro e w2 hR
  refine⟨_,_,_,hR,?_⟩
  try simp only[aQ]
  refine JR_end ?_
  refine cC (t:=xs.any badT) (fun hb=>?_) (fun hb=>?_)
  ·refine J_seq ?_
   refine Zp [.rd 0 [.r 0 (some (.iface 390 (.pointer (some (er 2)))))] 0 0,zR 1] [13,12] [zV 2 (.iface 390 (.pointer (some (er 2))))] (oC hglob1 oN) ?_
   refine Yr [[]] (.iface 390 (.pointer (some (er 2)))) fun a w s=>?_
   refine⟨_,s.ret (by simp) [] [] rfl rfl,.inr ⟨?_,?_⟩⟩ <;> rw[vecErr,if_neg hn2,if_pos hb]
   ·decide
  ·refine J_skip ?_
   refine Zs [zR 0] [13,12] [] ?_
   refine Yr [[]] (.nilIface) fun a w s=>?_
   exact⟨_,s.ret (by simp) [] [] rfl rfl,.inl ⟨by rw[vecErr,if_neg hn2,hb];rfl,rfl⟩⟩
end Go.Proofs.YtmkapocibaojdaaGreatDoor
end
section
namespace Go.Proofs.YtmkapocibaojdaaGreatDoor
open Go Go.Sx
def twoErr (xs ys:List Int):Nat:=if vecErr xs≠0 then vecErr xs else if vecErr ys≠0 then vecErr ys else if xs.length≠ys.length then 3 else 0
theorem vecErr_len {xs:List Int} (h:vecErr xs=0):1≤xs.length∧xs.length≤6:=by
 unfold vecErr at h
 split at h
 ·cases h
 ·omega
theorem vecErr_in {xs:List Int} (h:vecErr xs=0):∀t∈xs,0≤t∧t≤1099511627776:=by
 unfold vecErr at h
 split at h
 ·cases h
 ·split at h
  ·cases h
  ·rename_i hb
   intro t ht
   simp only[Bool.not_eq_true,List.any_eq_false]at hb
   have:=hb t ht
   simp[badT]at this
   omega
set_option maxHeartbeats 4000000 in
theorem vtwo {w:World} {S:Nat→Prop} {er:Nat→Addr} {a b:Option Addr} {n m c d:Nat} {xs ys:List Int} (hE:AllG w S (globs er)) (ha:Rep w S (.slice a n c) (dInts xs)) (hb:Rep w S (.slice b m d) (dInts ys)) (hl:xs.length≤1000000) (hl2:ys.length≤1000000) :
  Calls Tryz.prog 156 #[.slice a n c,.slice b m d] w fun e w'=>∃v,Ret [] w S w' e v [] []∧ErrIs 390 er (twoErr xs ys) v:=by
 obtain rfl:=rep_ints_len ha
 obtain rfl:=rep_ints_len hb
 refine epG Tryz.func156 bd156 (args:=[.slice a xs.length c,.slice b ys.length d]) (G:=globs er++[(_,dInts xs),(_,dInts ys)]) (by kernel_rfl) (hE.app (.cons ha (.cons hb (.nil _ _)))) ?_
 refine J_glob 2 rfl (fun csg1 tyg1 fzg1 hglob1=>?_)
 try simp only[aQ]
 refine Zs [zR 0] [] [zV 4 .nilIface] ?_
 refine J_seq ?_
 refine Zv [zR 0,zR 1,.wr 2 [] 0,zR 3,zR 4] [] [] (fun nu1=>[zS 10 (sA (nu1 0) 0) 2 2,zI 11 2,zI 12 0]) o0 (fun nu1=>[(nu1 0,.cells #[.slice a xs.length c,.slice b ys.length d] 32 (0,0))]) (fun nu1=>?_)
 refine J_block ?_
 refine J_loopx (fun i:Int=>[zS 0 a xs.length c,zS 1 b ys.length d,zV 4 .nilIface,zS 10 (sA (nu1 0) 0) 2 2,zI 11 2,zI 12 i]) (fun i:Int=>[(nu1 0,.cells #[.slice a xs.length c,.slice b ys.length d] 32 (0,0))]) (fun i:Int=>[]) (fun i:Int=>[(.nilIface,(D.v Value.nilIface)),(.pointer (sA 0 0),(D.ptr [D.v (Value.iface 390 (Value.pointer (some (er 2))))])),(.pointer (sA 1 0),(D.ptr [D.v (Value.iface 390 (Value.pointer (some (er 3))))])),(.slice a xs.length c,(dInts xs)),(.slice b ys.length d,(dInts ys))]) (fun i:Int=>(2 - i).toNat) (fun i:Int=>(i=0∨(i=1∧vecErr xs=0)∨(i=2∧vecErr xs=0∧vecErr ys=0))) 0 [0,1,4,10,11,12] [0] [] [0,1,2,3,4] ?_ (by kernel_rfl) rfl rfl rfl ?_
 ·exact .inl rfl
 rintro i (rfl|⟨rfl,h0⟩|⟨rfl,h0,h1⟩)
 ·refine J_seq ?_
  refine Za [zR 0] [] [zB 13 true] ?_
  refine J_seq ?_
  refine cTt ?_
  refine J_skip (J_seq (J_block ?_))
  refine Zs [zR 0,.rd 1 [.o 0 none] 0 0,zR 2] [13] [zS 6 a xs.length c] ?_
  refine jS [(0,true),(1,false),(2,true)] [] ?_
  refine Ya [zR 0] [] [zS 16 a xs.length c] ?_
  refine Yc 141 #[.slice a xs.length c] (some 17) fun w S hG=>?_
  refine(vcheck (hG.pick [0,1,2] rfl) (hG.at 3 rfl) hl).mono ?_
  rintro e w2 ⟨v,hR,⟨h2,rfl⟩|⟨h2,rfl⟩⟩
  ·refine⟨_,_,_,hR,?_⟩
   try simp only[aQ]
   refine Ya [zR 2] [17,16] [zV 7 .nilIface] ?_
   refine JR_end ?_
   refine Zs [zR 0,zR 1] [] [zB 19 false] ?_
   refine cF ?_
   refine J_skip (J_eb ?_)
   refine Za [zR 0,zR 1] [19] [zI 12 1] ?_
   refine J_backx 1 [0,1,4,10,11,12] [0] [] [0,1,2,3,4] ?_ ?_ (by kernel_rfl) rfl rfl rfl
   ·exact .inr (.inl ⟨rfl,h2⟩)
   ·omega
  ·refine⟨_,_,_,hR,?_⟩
   try simp only[aQ]
   refine Ya [zR 2] [17,16] [zV 7 (.iface 390 (.pointer (some (er (vecErr xs)))))] ?_
   refine JR_end ?_
   refine Zs [zR 0,zR 1] [] [zB 19 true] ?_
   refine cTt ?_
   refine Zs [zR 0,zR 1] [19] [zV 4 (.iface 390 (.pointer (some (er (vecErr xs)))))] ?_
   refine Yr [[]] (.iface 390 (.pointer (some (er (vecErr xs))))) fun a w s=>?_
   exact⟨_,s.ret (by simp) [] [] rfl rfl,.inr (by rw[twoErr,if_pos h2];exact⟨h2,rfl⟩)⟩
 ·refine J_seq ?_
  refine Za [zR 0] [] [zB 13 true] ?_
  refine J_seq ?_
  refine cTt ?_
  refine J_skip (J_seq (J_block ?_))
  refine Zs [zR 0,.rd 1 [.o 0 none] 0 0,zR 2] [13] [zS 6 b ys.length d] ?_
  refine jS [(0,true),(1,false),(2,true)] [] ?_
  refine Ya [zR 0] [] [zS 16 b ys.length d] ?_
  refine Yc 141 #[.slice b ys.length d] (some 17) fun w S hG=>?_
  refine(vcheck (hG.pick [0,1,2] rfl) (hG.at 4 rfl) hl2).mono ?_
  rintro e w2 ⟨v,hR,⟨h2,rfl⟩|⟨h2,rfl⟩⟩
  ·refine⟨_,_,_,hR,?_⟩
   try simp only[aQ]
   refine Ya [zR 2] [17,16] [zV 7 .nilIface] ?_
   refine JR_end ?_
   refine Zs [zR 0,zR 1] [] [zB 19 false] ?_
   refine cF ?_
   refine J_skip (J_eb ?_)
   refine Za [zR 0,zR 1] [19] [zI 12 2] ?_
   refine J_backx 2 [0,1,4,10,11,12] [0] [] [0,1,2,3,4] ?_ ?_ (by kernel_rfl) rfl rfl rfl
   ·exact .inr (.inr ⟨rfl,h0,h2⟩)
   ·omega
  ·refine⟨_,_,_,hR,?_⟩
   try simp only[aQ]
   refine Ya [zR 2] [17,16] [zV 7 (.iface 390 (.pointer (some (er (vecErr ys)))))] ?_
   refine JR_end ?_
   refine Zs [zR 0,zR 1] [] [zB 19 true] ?_
   refine cTt ?_
   refine Zs [zR 0,zR 1] [19] [zV 4 (.iface 390 (.pointer (some (er (vecErr ys)))))] ?_
   refine Yr [[]] (.iface 390 (.pointer (some (er (vecErr ys))))) fun a w s=>?_
   exact⟨_,s.ret (by simp) [] [] rfl rfl,.inr (by rw[twoErr,if_neg (by simp[h0]),if_pos h2];exact⟨h2,rfl⟩)⟩
 ·refine J_seq ?_
  refine Za [zR 0] [] [zB 13 false] ?_
  refine J_seq ?_
  refine cF ?_
  refine J_exit rfl ?_
  refine J_seq ?_
  refine Zs (Rds 0 5) [13,0,1,10,11,12] [zB 26 ((↑xs.length:Int) != (↑ys.length:Int))] ?_
  refine cC (t:=(↑xs.length:Int) != (↑ys.length:Int)) (fun hne=>?_) (fun hne=>?_)
  ·refine J_seq ?_
   refine Zp [.rd 0 [.r 0 (some (.iface 390 (.pointer (some (er 3)))))] 0 0,zR 1] [26] [zV 4 (.iface 390 (.pointer (some (er 3))))] (oC hglob1 oN) ?_
   refine Yr [[]] (.iface 390 (.pointer (some (er 3)))) fun a w s=>?_
   exact⟨_,s.ret (by simp) [] [] rfl rfl,.inr (by rw[twoErr,if_neg (by simp[h0]),if_neg (by simp[h1]),if_pos (by simp at hne;omega)];exact⟨by decide,rfl⟩)⟩
  ·refine J_skip ?_
   refine Zs [zR 0] [26] [] ?_
   refine Yr [[]] (.nilIface) fun a w s=>?_
   exact⟨_,s.ret (by simp) [] [] rfl rfl,.inl ⟨by rw[twoErr,if_neg (by simp[h0]),if_neg (by simp[h1]),if_neg (by simp at hne;omega)],rfl⟩⟩
def inL (xs ys:List Int):Bool:=(xs.zip ys).all fun p=>decide (p.1≤p.2)
theorem inL_true {xs ys:List Int} (hl:xs.length=ys.length) (h:∀(j:Nat) x y,xs[j]?=some x→ys[j]?=some y→x≤y):inL xs ys=true:=by
 unfold inL
 rw[List.all_eq_true]
 rintro⟨x,y⟩ hm
 obtain⟨j,hj⟩:=List.getElem?_of_mem hm
 rw[List.getElem?_zip_eq_some]at hj
 simpa using h j x y hj.1 hj.2
theorem inL_false {xs ys:List Int} {j:Nat} {x y:Int} (hx:xs[j]?=some x) (hy:ys[j]?=some y) (h:y<x):inL xs ys=false:=by
 unfold inL
 rw[List.all_eq_false]
 exact⟨(x,y),List.mem_of_getElem? (List.getElem?_zip_eq_some.2 ⟨hx,hy⟩),by simpa using h⟩
set_option maxHeartbeats 4000000 in
theorem vin {w:World} {S:Nat→Prop} {a b:Option Addr} {n m c d:Nat} {xs ys:List Int} (ha:Rep w S (.slice a n c) (dInts xs)) (hb:Rep w S (.slice b m d) (dInts ys)) (hl:xs.length≤1000000) (hxy:xs.length=ys.length) :
  Calls Tryz.prog 157 #[.slice a n c,.slice b m d] w fun e w'=>Ret [] w S w' e (.bool (inL xs ys)) [] []:=by
 obtain rfl:=rep_ints_len ha
 obtain rfl:=rep_ints_len hb
 refine epG Tryz.func157 bd157 (args:=[.slice a xs.length c,.slice b ys.length d]) (G:=[(_,dInts xs),(_,dInts ys)]) (by kernel_rfl) (.cons ha (.cons hb (.nil _ _))) ?_
 refine Zs [zR 0] [] [zB 4 false] ?_
 refine J_seq ?_
 refine Zs (Rds 0 3) [0] [zS 7 a xs.length c,zI 8 (↑xs.length:Int),zI 9 0] ?_
 refine J_block ?_
 refine J_loopx (fun i:Int=>[zS 1 b ys.length d,zB 4 false,zS 7 a xs.length c,zI 8 (↑xs.length:Int),zI 9 i]) (fun i:Int=>[]) (fun i:Int=>[]) (fun i:Int=>[(.slice a xs.length c,(dInts xs)),(.slice b ys.length d,(dInts ys))]) (fun i:Int=>(xs.length - i).toNat) (fun i:Int=>(0≤i∧i≤xs.length∧∀j:Nat,j<i.toNat→∀x y,xs[j]?=some x→ys[j]?=some y→x≤y)) 0 [1,4,7,8,9] [] [] [0,1] ?_ (by kernel_rfl) rfl rfl rfl ?_
 ·exact⟨by simp,by omega,by simp⟩
 rintro i ⟨hi0,hi,hno⟩
 refine Zs [zR 0] [] [zB 10 (decide (i<(↑xs.length:Int)))] ?_
 refine J_seq ?_
 refine cC (t:=decide (i<(↑xs.length:Int))) (fun hlt=>?_) (fun hlt=>?_)
 ·have hlt2:i<xs.length:=by simpa using hlt
  obtain⟨x,hx⟩:∃x,xs[i.toNat]?=some x:=⟨_,List.getElem?_eq_getElem (by omega)⟩
  obtain⟨y,hy⟩:∃y,ys[i.toNat]?=some y:=⟨_,List.getElem?_eq_getElem (by omega)⟩
  refine J_read0 0 rfl i.toNat (map_at hx) (by kernel_rfl) (fun b1 off1 cs1 ty1 fz1 ha1 hrd1=>?_)
  cases ha1
  have hrd1_0:=rd0 (hrd1 0 _ rfl)
  refine J_read0 1 rfl i.toNat (map_at hy) (by kernel_rfl) (fun b2 off2 cs2 ty2 fz2 ha2 hrd2=>?_)
  cases ha2
  have hrd2_0:=rd0 (hrd2 0 _ rfl)
  try simp only[aQ]
  refine J_skip (J_seq (J_block ?_))
  refine Zt [zR 0,.rd 1 [] 0 2,.rd 2 [.r 0 (some (nI x))] 0 0,zR 3,zR 4] [10] [zI 5 i,zI 6 x] (oC hi0 (oC hlt2 (oC hrd1_0 oN))) ?_
  refine Zt (Rds 0 3++[.rd 3 [] 0 2,.rd 4 [.r 1 (some (nI y))] 0 0,zR 5]) [] [zB 19 (decide (x>y))] (oC hi0 (oC (show i<(↑ys.length:Int) from by omega) (oC hrd2_0 oN))) ?_
  refine cC (t:=decide (x>y)) (fun hgt=>?_) (fun hgt=>?_)
  ·refine J_seq ?_
   refine Za [zR 0] [19] [] ?_
   refine Yr [[]] (.bool false) fun a w s=>?_
   rw[inL_false hx hy (by simpa using hgt)]
   exact s.ret (by simp) [] [] rfl rfl
  ·refine J_skip ?_
   refine J_eb ?_
   refine Zp [.rd 0 [] 0 1,zR 1] [19] [zI 9 (i+1)] (oC (show IntKind.i64.wrap (i+1)=i+1 from wrap_i64 (by omega) (by omega)) oN) ?_
   refine J_backx (i+1) [1,4,7,8,9] [] [] [0,1] ?_ ?_ (by kernel_rfl) rfl rfl rfl
   ·refine⟨by omega,by omega,fun j hj x' y' hx' hy'=>?_⟩
    by_cases hji:j=i.toNat
    ·subst hji
     rw[hx]at hx'
     rw[hy]at hy'
     cases hx'
     cases hy'
     simpa using hgt
    ·exact hno j (by omega) x' y' hx' hy'
   ·omega
 ·refine J_exit rfl ?_
  refine Zs [zR 0] [10,1,7,8,9] [zB 4 true] ?_
  refine Yr [[]] (.bool true) fun a w s=>?_
  rw[inL_true hxy fun j x y hx hy=>hno j (by have:=(List.getElem?_eq_some_iff.1 hx).1;simp at hlt;omega) x y hx hy]
  exact s.ret (by simp) [] [] rfl rfl
end Go.Proofs.YtmkapocibaojdaaGreatDoor
end
section
namespace Go.Proofs.YtmkapocibaojdaaGreatDoor
open Go Go.Sx
theorem twoErr_fine {xs ys:List Int} (h:twoErr xs ys=0):vecErr xs=0∧vecErr ys=0∧xs.length=ys.length:=by
 unfold twoErr at h
 split at h
 ·exact absurd h ‹_›
 ·split at h
  ·exact absurd h ‹_›
  ·split at h
   ·cases h
   ·rename_i h1 h2 h3
    exact⟨by simpa using h1,by simpa using h2,by omega⟩
set_option maxHeartbeats 4000000 in
theorem vwithin {w:World} {S:Nat→Prop} {er:Nat→Addr} {a b:Option Addr} {n m c d:Nat} {xs ys:List Int} (hE:AllG w S (globs er)) (ha:Rep w S (.slice a n c) (dInts xs)) (hb:Rep w S (.slice b m d) (dInts ys)) (hl:xs.length≤1000000) (hl2:ys.length≤1000000) :
  Calls Tryz.prog 100 #[.slice a n c,.slice b m d] w fun e w'=>
   (twoErr xs ys≠0∧Ret [] w S w' e (.tuple #[.bool false,errV 390 er (twoErr xs ys)]) [] []) ∨
   (twoErr xs ys=0∧Ret [] w S w' e (.tuple #[.bool (inL xs ys),.nilIface]) [] []):=by
 refine epG Tryz.func100 bd100 (args:=[.slice a n c,.slice b m d]) (G:=globs er++[(_,dInts xs),(_,dInts ys)]) (by kernel_rfl) (hE.app (.cons ha (.cons hb (.nil _ _)))) ?_
 try simp only[aQ]
 refine Zs [zR 0,zR 1] [] [zB 4 false,zV 5 .nilIface] ?_
 refine J_seq ?_
 refine jS [(0,true),(1,true),(2,false),(3,true)] [] ?_
 refine Ya [zR 0,zR 1] [] [zS 7 a n c,zS 8 b m d] ?_
 refine Yc 156 #[.slice a n c,.slice b m d] (some 9) fun w S hG=>?_
 refine(vtwo (hG.pick [0,1,2] rfl) (hG.at 3 rfl) (hG.at 4 rfl) hl hl2).mono ?_
 rintro e w2 ⟨v,hR,⟨h2,rfl⟩|⟨h2,rfl⟩⟩
 ·refine⟨_,_,_,hR,?_⟩
  try simp only[aQ]
  refine Ya [zR 3] [9,7,8] [zV 6 .nilIface] ?_
  refine JR_end ?_
  refine Zs [zR 0,zR 1] [] [zB 11 false] ?_
  refine cF ?_
  refine J_skip ?_
  refine jS [(0,true),(1,true),(2,false),(3,true),(4,true)] [] ?_
  refine Ya [zR 0,zR 1] [11,6,0,1] [zS 13 a n c,zS 14 b m d] ?_
  refine Yc 157 #[.slice a n c,.slice b m d] (some 15) fun w S hG=>?_
  refine(vin (hG.at 3 rfl) (hG.at 4 rfl) hl (twoErr_fine h2).2.2).mono ?_
  rintro e w2 hR
  refine⟨_,_,_,hR,?_⟩
  try simp only[aQ]
  refine Ya [zR 3,zR 4] [15,13,14] [zB 4 (inL xs ys)] ?_
  refine JR_end ?_
  refine Yr [[],[]] (.tuple #[.bool (inL xs ys),.nilIface]) fun a w s=>?_
  exact .inr ⟨h2,s.ret (by simp) [] [] rfl rfl⟩
 ·refine⟨_,_,_,hR,?_⟩
  try simp only[aQ]
  refine Ya [zR 3] [9,7,8] [zV 6 (.iface 390 (.pointer (some (er (twoErr xs ys)))))] ?_
  refine JR_end ?_
  refine Zs [zR 0,zR 1] [] [zB 11 true] ?_
  refine cTt ?_
  refine Zs (Rds 0 3) [11,6] [zV 5 (.iface 390 (.pointer (some (er (twoErr xs ys)))))] ?_
  refine Yr [[],[]] (.tuple #[.bool false,.iface 390 (.pointer (some (er (twoErr xs ys))))]) fun a w s=>?_
  exact .inl ⟨h2,s.ret (by simp) [] [] rfl rfl⟩
def sumL (xs:List Int):Int:=xs.foldl (· + ·) 0
theorem sumL_snoc (xs:List Int) (x:Int):sumL (xs++[x])=sumL xs+x:=by simp[sumL]
theorem sumL_le {xs:List Int} (h:∀t∈xs,0≤t∧t≤1099511627776) (i:Nat):0≤sumL (xs.take i)∧sumL (xs.take i)≤1099511627776*i:=by
 induction i with
 | zero=>simp[sumL]
 | succ i ih=>
  cases hx:xs[i]? with
  | none=>
   rw[List.take_add_one,hx]
   simp only[Option.toList_none,List.append_nil]
   omega
  | some x=>
   rw[List.take_add_one,hx]
   have:=h x (List.mem_of_getElem? hx)
   simp only[Option.toList_some,sumL_snoc]
   omega
set_option maxHeartbeats 4000000 in
theorem vweight {w:World} {S:Nat→Prop} {er:Nat→Addr} {a:Option Addr} {n c:Nat} {xs:List Int} (hE:AllG w S (globs er)) (ha:Rep w S (.slice a n c) (dInts xs)) (hl:xs.length≤1000000) :
  Calls Tryz.prog 195 #[.slice a n c] w fun e w'=>
   (vecErr xs≠0∧Ret [] w S w' e (.tuple #[.int .i64 0,errV 390 er (vecErr xs)]) [] []) ∨
   (vecErr xs=0∧Ret [] w S w' e (.tuple #[.int .i64 (sumL xs),.nilIface]) [] []):=by
 obtain rfl:=rep_ints_len ha
 refine epG Tryz.func195 bd195 (args:=[.slice a xs.length c]) (G:=globs er++[(_,dInts xs)]) (by kernel_rfl) (hE.app (.cons ha (.nil _ _))) ?_
 try simp only[aQ]
 refine Zs [zR 0,zR 1] [] [zI 2 0,zV 3 .nilIface] ?_
 refine J_seq ?_
 refine jS [(0,true),(1,false),(2,true)] [] ?_
 refine Ya [zR 0] [] [zS 8 a xs.length c] ?_
 refine Yc 141 #[.slice a xs.length c] (some 9) fun w S hG=>?_
 refine(vcheck (hG.pick [0,1,2] rfl) (hG.at 3 rfl) hl).mono ?_
 rintro e w2 ⟨v,hR,⟨h2,rfl⟩|⟨h2,rfl⟩⟩
 ·refine⟨_,_,_,hR,?_⟩
  have h6:=vecErr_len h2
  try simp only[aQ]
  refine Ya [zR 2] [9,8] [zV 4 .nilIface] ?_
  refine JR_end ?_
  refine Zs [zR 0,zR 1] [] [zB 11 false] ?_
  refine cF ?_
  refine J_skip ?_
  refine Zs [zR 0] [11,4] [zI 5 0] ?_
  refine J_seq ?_
  refine Zs (Rds 0 3) [0] [zS 13 a xs.length c,zI 14 (↑xs.length:Int),zI 15 0] ?_
  refine J_block ?_
  refine J_loopx (fun i:Int=>[zI 2 0,zV 3 .nilIface,zI 5 (sumL (xs.take i.toNat)),zS 13 a xs.length c,zI 14 (↑xs.length:Int),zI 15 i]) (fun i:Int=>[]) (fun i:Int=>[]) (fun i:Int=>[(.nilIface,(D.v Value.nilIface)),(.pointer (sA 0 0),(D.ptr [D.v (Value.iface 390 (Value.pointer (some (er 2))))])),(.pointer (sA 1 0),(D.ptr [D.v (Value.iface 390 (Value.pointer (some (er 3))))])),(.slice a xs.length c,(dInts xs))]) (fun i:Int=>(xs.length - i).toNat) (fun i:Int=>(0≤i∧i≤xs.length)) 0 [2,3,5,13,14,15] [] [] [0,1,2,3] ?_ (by kernel_rfl) rfl rfl rfl ?_
  ·exact⟨by simp,by omega⟩
  rintro i ⟨hi0,hi⟩
  refine Zs [zR 0] [] [zB 16 (decide (i<(↑xs.length:Int)))] ?_
  refine J_seq ?_
  refine cC (t:=decide (i<(↑xs.length:Int))) (fun hlt=>?_) (fun hlt=>?_)
  ·have hlt2:i<xs.length:=by simpa using hlt
   obtain⟨x,hx⟩:∃x,xs[i.toNat]?=some x:=⟨_,List.getElem?_eq_getElem (by omega)⟩
   have hs:=sumL_le (vecErr_in h2) i.toNat
   have hs2:=vecErr_in h2 x (List.mem_of_getElem? hx)
   refine J_read0 3 rfl i.toNat (map_at hx) (by kernel_rfl) (fun b1 off1 cs1 ty1 fz1 ha1 hrd1=>?_)
   cases ha1
   have hrd1_0:=rd0 (hrd1 0 _ rfl)
   try simp only[aQ]
   refine J_skip (J_seq (J_block ?_))
   refine Zt [.rd 0 [] 0 2,.rd 1 [.r 0 (some (nI x))] 0 0,zR 2] [16] [zI 7 x] (oC hi0 (oC hlt2 (oC hrd1_0 oN))) ?_
   refine Zp [zR 0,zR 1,.rd 2 [] 0 1,zR 3] [] [zI 5 (sumL (List.take i.toNat xs)+x)] (oC (show IntKind.i64.wrap (sumL (List.take i.toNat xs)+x)=sumL (List.take i.toNat xs)+x from wrap_i64 (by omega) (by omega)) oN) ?_
   refine J_eb ?_
   refine Zp [.rd 0 [] 0 1,zR 1] [] [zI 15 (i+1)] (oC (show IntKind.i64.wrap (i+1)=i+1 from wrap_i64 (by omega) (by omega)) oN) ?_
   rw[←sumL_snoc,take_snoc hi0 hx]
   refine J_backx (i+1) [2,3,5,13,14,15] [] [] [0,1,2,3] ?_ ?_ (by kernel_rfl) rfl rfl rfl
   ·exact⟨by omega,by omega⟩
   ·omega
  ·have e:xs.take i.toNat=xs:=List.take_of_length_le (by simp at hlt;omega)
   refine J_exit rfl ?_
   refine Zs (Rds 0 3) [16,5,13,14,15] [zI 2 (sumL (List.take i.toNat xs))] ?_
   refine Yr [[],[]] (.tuple #[nI (sumL (List.take i.toNat xs)),.nilIface]) fun a w s=>?_
   rw[e]
   exact .inr ⟨h2,s.ret (by simp) [] [] rfl rfl⟩
 ·refine⟨_,_,_,hR,?_⟩
  try simp only[aQ]
  refine Ya [zR 2] [9,8] [zV 4 (.iface 390 (.pointer (some (er (vecErr xs)))))] ?_
  refine JR_end ?_
  refine Zs [zR 0,zR 1] [] [zB 11 true] ?_
  refine cTt ?_
  refine Zs (Rds 0 3) [11,4] [zV 3 (.iface 390 (.pointer (some (er (vecErr xs)))))] ?_
  refine Yr [[],[]] (.tuple #[nI 0,.iface 390 (.pointer (some (er (vecErr xs))))]) fun a w s=>?_
  exact .inl ⟨h2,s.ret (by simp) [] [] rfl rfl⟩
end Go.Proofs.YtmkapocibaojdaaGreatDoor
end
section
namespace Go.Proofs.YtmkapocibaojdaaGreatDoor.Er
open Go Go.RowKit Go.Extern.Stop Go.Stop Go.Extern
theorem isTypeOf (v:Value) (w:World):(Extern.ReflectliteType.typeOf #[.iface 390 v]).run Tryz.prog w=.ok (.iface 330 (.agg #[.pointer (some ⟨13,390,none⟩)])) w:=by kernel_rfl
theorem isComparable (w:World):(callFunc 292 #[.agg #[.pointer (some ⟨13,390,none⟩)]]).run Tryz.prog w=.ok (.value (.bool true)) w:=by kernel_rfl
theorem isMethodComparable (v:Value) (w:World):(Go.method 523 330 v "Comparable").run Tryz.prog w=.ok (292,v) w:=by kernel_rfl
theorem isComp:(Tryz.prog.info? 390).map (·.comparable)=some true:=by kernel_rfl
theorem isSize:(Tryz.prog.info? 411).map (·.size)=some 1:=by kernel_rfl
theorem noIsE (v:Value) (xT:TypeId) (w:World):(Instr.typeAssert (.iface 390 v) xT 340 true).run Tryz.prog w=.ok (.tuple #[.nilIface,.bool false]) w:=run_typeAssert_lacksB Tryz.underlying340 (by kernel_rfl) (by kernel_rfl) v xT w
theorem noUnwrapE (v:Value) (xT:TypeId) (w:World):(Instr.typeAssert (.iface 390 v) xT 337 true).run Tryz.prog w=.ok (.tuple #[.nilIface,.bool false]) w:=run_typeAssert_lacksB Tryz.underlying337 (by kernel_rfl) (by kernel_rfl) v xT w
theorem noUnwrapsE (v:Value) (xT:TypeId) (w:World):(Instr.typeAssert (.iface 390 v) xT 338 true).run Tryz.prog w=.ok (.tuple #[.nilIface,.bool false]) w:=run_typeAssert_lacksB Tryz.underlying338 (by kernel_rfl) (by kernel_rfl) v xT w
theorem noAsE (v:Value) (xT:TypeId) (w:World):(Instr.typeAssert (.iface 390 v) xT 334 true).run Tryz.prog w=.ok (.tuple #[.nilIface,.bool false]) w:=run_typeAssert_lacksB Tryz.underlying334 (by kernel_rfl) (by kernel_rfl) v xT w
theorem noIsW (v:Value) (xT:TypeId) (w:World):(Instr.typeAssert (.iface 202 v) xT 340 true).run Tryz.prog w=.ok (.tuple #[.nilIface,.bool false]) w:=run_typeAssert_lacksB Tryz.underlying340 (by kernel_rfl) (by kernel_rfl) v xT w
theorem hasUnwrapW (v:Value) (xT:TypeId) (w:World):(Instr.typeAssert (.iface 202 v) xT 337 true).run Tryz.prog w=.ok (.tuple #[.iface 202 v,.bool true]) w:=run_typeAssert_hasB Tryz.underlying337 (by kernel_rfl) v xT w
theorem methodUnwrap (v:Value) (w:World):(Go.method 523 202 v "Unwrap").run Tryz.prog w=.ok (286,v) w:=by kernel_rfl
theorem is_same (a:Addr) (w:World) :
  Calls Tryz.prog 124 #[.iface 390 (.pointer (some a)),.iface 390 (.pointer (some a))] w fun e w'=>e=.returned (.bool true)∧w'=w:=by
 obtain⟨i,hi,hcmp⟩:=Option.map_eq_some_iff.1 isComp
 obtain⟨j,hj,hjs⟩:=Option.map_eq_some_iff.1 isSize
 have h8:=@run_callFunc_extern Tryz.prog 173 _ Extern.ReflectliteType.typeOf Tryz.func173 (by kernel_rfl) (by kernel_rfl) (by kernel_rfl) (by kernel_rfl)
 have tT:=isTypeOf
 have cT:=isComparable
 have mR:=isMethodComparable
 have heq:=run_eql_iface_ptr_same (P:=Tryz.prog) w a Tryz.underlying26 Tryz.underlying390 hi hcmp hj
 go_enter Tryz.func124,Tryz.ntmps124
 go_wp2
 refine wp_loop_rounds 1 ?_
 rw[rounds_succ]
 go_wp2
 go_ret
 exact⟨rfl,rfl⟩
theorem is_other (a b:Addr) (ca cb:Array Value) (ta tb:TypeId) (w:World) (hne:a≠b) (ha:w.heap[a.block]?=some (.cells ca ta (0,0))) (hb:w.heap[b.block]?=some (.cells cb tb (0,0))) :
  Calls Tryz.prog 124 #[.iface 390 (.pointer (some a)),.iface 390 (.pointer (some b))] w fun e w'=>e=.returned (.bool false)∧w'=w:=by
 obtain⟨i,hi,hcmp⟩:=Option.map_eq_some_iff.1 isComp
 obtain⟨j,hj,hjs⟩:=Option.map_eq_some_iff.1 isSize
 have h8:=@run_callFunc_extern Tryz.prog 173 _ Extern.ReflectliteType.typeOf Tryz.func173 (by kernel_rfl) (by kernel_rfl) (by kernel_rfl) (by kernel_rfl)
 have tT:=isTypeOf
 have cT:=isComparable
 have mR:=isMethodComparable
 have nE:=noIsE
 have uE:=noUnwrapE
 have vE:=noUnwrapsE
 have heq:=run_eql_iface_ptr_other (P:=Tryz.prog) w Tryz.underlying26 Tryz.underlying390 hi hcmp hj (by rw[hjs];decide) hne ha hb
 go_enter Tryz.func124,Tryz.ntmps124
 go_wp2
 refine wp_loop_rounds 1 ?_
 rw[rounds_succ]
 go_wp2
 go_ret
 exact⟨rfl,rfl⟩
theorem is_wrap_same (pb po:Nat) (b:Addr) (w:World) (h1:w.cell? ⟨pb,po+1,none⟩=some (.iface 390 (.pointer (some b)))) :
  Calls Tryz.prog 124 #[.iface 202 (.pointer (some ⟨pb,po,none⟩)),.iface 390 (.pointer (some b))] w fun e w'=>e=.returned (.bool true)∧w'=w:=by
 obtain⟨i,hi,hcmp⟩:=Option.map_eq_some_iff.1 isComp
 obtain⟨j,hj,hjs⟩:=Option.map_eq_some_iff.1 isSize
 have h8:=@run_callFunc_extern Tryz.prog 173 _ Extern.ReflectliteType.typeOf Tryz.func173 (by kernel_rfl) (by kernel_rfl) (by kernel_rfl) (by kernel_rfl)
 have tT:=isTypeOf
 have cT:=isComparable
 have mR:=isMethodComparable
 have nW:=noIsW
 have uW:=hasUnwrapW
 have mU:=methodUnwrap
 have heq:=run_eql_iface_ptr_same (P:=Tryz.prog) w b Tryz.underlying26 Tryz.underlying390 hi hcmp hj
 have hty:=run_eql_iface_types (P:=Tryz.prog) 202 390 (.pointer (some ⟨pb,po,none⟩)) (.pointer (some b)) Tryz.underlying26 (by decide) w
 go_enter Tryz.func124,Tryz.ntmps124
 go_wp2
 refine wp_loop_rounds 2 ?_
 rw[rounds_succ]
 go_wp2
 rw[rounds_succ]
 go_wp2
 go_ret
 exact⟨rfl,rfl⟩
theorem is_wrap_other (pb po:Nat) (b a:Addr) (ca cb:Array Value) (ta tb:TypeId) (w:World) (h1:w.cell? ⟨pb,po+1,none⟩=some (.iface 390 (.pointer (some a)))) (hne:a≠b) (ha:w.heap[a.block]?=some (.cells ca ta (0,0))) (hb:w.heap[b.block]?=some (.cells cb tb (0,0))) :
  Calls Tryz.prog 124 #[.iface 202 (.pointer (some ⟨pb,po,none⟩)),.iface 390 (.pointer (some b))] w fun e w'=>e=.returned (.bool false)∧w'=w:=by
 obtain⟨i,hi,hcmp⟩:=Option.map_eq_some_iff.1 isComp
 obtain⟨j,hj,hjs⟩:=Option.map_eq_some_iff.1 isSize
 have h8:=@run_callFunc_extern Tryz.prog 173 _ Extern.ReflectliteType.typeOf Tryz.func173 (by kernel_rfl) (by kernel_rfl) (by kernel_rfl) (by kernel_rfl)
 have tT:=isTypeOf
 have cT:=isComparable
 have mR:=isMethodComparable
 have nE:=noIsE
 have uE:=noUnwrapE
 have vE:=noUnwrapsE
 have nW:=noIsW
 have uW:=hasUnwrapW
 have mU:=methodUnwrap
 have heq:=run_eql_iface_ptr_other (P:=Tryz.prog) w Tryz.underlying26 Tryz.underlying390 hi hcmp hj (by rw[hjs];decide) hne ha hb
 have hty:=run_eql_iface_types (P:=Tryz.prog) 202 390 (.pointer (some ⟨pb,po,none⟩)) (.pointer (some b)) Tryz.underlying26 (by decide) w
 go_enter Tryz.func124,Tryz.ntmps124
 go_wp2
 refine wp_loop_rounds 2 ?_
 rw[rounds_succ]
 go_wp2
 rw[rounds_succ]
 go_wp2
 go_ret
 exact⟨rfl,rfl⟩
theorem valueOfFF (t:Addr) (w:World):(ReflectliteValue.unpack (.iface 229 (.pointer (some t)))).run Tryz.prog w
  = .ok (.agg #[.pointer (some ⟨13,229,none⟩),.pointer (some ⟨w.heap.size,0,none⟩),.int .u64 150]) (w.alloc (.cells #[.pointer (some t)] 229)):=by kernel_rfl
theorem typeFF (a:Addr) (w:World):(ReflectliteValue.methodAny (ReflectliteValue.valueError "reflectlite.Value.Type" 0) (fun t _ _ _=>ReflectliteType.toType t) #[.agg #[.pointer (some ⟨13,229,none⟩),.pointer (some a),.int .u64 150]]).run Tryz.prog w
  = .ok (.iface 330 (.agg #[.pointer (some ⟨13,229,none⟩)])) w:=by kernel_rfl
theorem methodKind (h:Value) (w:World):(Go.method 523 330 (.agg #[h]) "Kind").run Tryz.prog w=.ok (280,h) w:=by kernel_rfl
theorem kindFF (w:World):((ReflectliteType.abiMethod fun t=>(fun a:Nat=>Value.int IntKind.u8 (a:Int)) <$> Rtype.kind t) #[.pointer (some ⟨13,229,none⟩)]).run Tryz.prog w=.ok (.int .u8 22) w:=by kernel_rfl
theorem kindF (w:World):((ReflectliteType.abiMethod fun t=>(fun a:Nat=>Value.int IntKind.u8 (a:Int)) <$> Rtype.kind t) #[.pointer (some ⟨13,202,none⟩)]).run Tryz.prog w=.ok (.int .u8 22) w:=by kernel_rfl
theorem rlm (z:Sem Value) (f:TypeId→Addr→Nat→Nat→Sem Value) (v:Value) :
  ReflectliteValue.method z f #[v]=(do match ← ReflectliteValue.parts v with|none=>z|some (t,a,fl)=>f t a fl (fl % 32)):=rfl
theorem partsFF (a:Addr) (w:World):(ReflectliteValue.parts (.agg #[.pointer (some ⟨13,229,none⟩),.pointer (some a),.int .u64 150])).run Tryz.prog w=.ok (some (229,a,150)) w:=by kernel_rfl
theorem isNilFF (a p:Addr) (W:World) (ha:W.cell? a=some (.pointer (some p))) :
  (ReflectliteValue.method (ReflectliteValue.valueError "reflectlite.Value.IsNil" 0) ReflectliteValue.isNil #[.agg #[.pointer (some ⟨13,229,none⟩),.pointer (some a),.int .u64 150]]).run Tryz.prog W=.ok (.bool false) W:=by
 rw[rlm]
 simp only[Sem.run_bind,partsFF,Result.andThen]
 simp[ReflectliteValue.isNil,loadVar,isAgg,underlying,Tryz.underlying229,ha,Result.andThen]
theorem methodElem (h:Value) (w:World):(Go.method 523 330 (.agg #[h]) "Elem").run Tryz.prog w=.ok (293,.agg #[h]) w:=by kernel_rfl
theorem methodImplements (h:Value) (w:World):(Go.method 523 330 (.agg #[h]) "Implements").run Tryz.prog w=.ok (294,.agg #[h]) w:=by kernel_rfl
theorem methodAssignableTo (h:Value) (w:World):(Go.method 523 330 (.agg #[h]) "AssignableTo").run Tryz.prog w=.ok (291,.agg #[h]) w:=by kernel_rfl
theorem elemFF (w:World):(ReflectliteType.method ReflectliteType.elem #[.agg #[.pointer (some ⟨13,229,none⟩)]]).run Tryz.prog w=.ok (.iface 330 (.agg #[.pointer (some ⟨13,202,none⟩)])) w:=by kernel_rfl
theorem implementsF (w:World):(ReflectliteType.relation "Implements" ReflectliteType.implements_ #[.agg #[.pointer (some ⟨13,202,none⟩)],.iface 330 (.agg #[.pointer (some ⟨13,26,none⟩)])]).run Tryz.prog w=.ok (.bool true) w:=by kernel_rfl
theorem typeOfF (v:Value) (w:World):(ReflectliteType.typeOf #[.iface 202 v]).run Tryz.prog w=.ok (.iface 330 (.agg #[.pointer (some ⟨13,202,none⟩)])) w:=by kernel_rfl
theorem assignableF (w:World):(ReflectliteType.relation "AssignableTo" ReflectliteType.assignableTo #[.agg #[.pointer (some ⟨13,202,none⟩)],.iface 330 (.agg #[.pointer (some ⟨13,202,none⟩)])]).run Tryz.prog w=.ok (.bool true) w:=by kernel_rfl
theorem assignableT (w:World):(ReflectliteType.relation "AssignableTo" ReflectliteType.assignableTo #[.agg #[.pointer (some ⟨13,390,none⟩)],.iface 330 (.agg #[.pointer (some ⟨13,202,none⟩)])]).run Tryz.prog w=.ok (.bool false) w:=by kernel_rfl
theorem valueOfF (e:Addr) (w:World):(ReflectliteValue.unpack (.iface 202 (.pointer (some e)))).run Tryz.prog w
  = .ok (.agg #[.pointer (some ⟨13,202,none⟩),.pointer (some ⟨w.heap.size,0,none⟩),.int .u64 150]) (w.alloc (.cells #[.pointer (some e)] 202)):=by kernel_rfl
theorem elemOfFF (w:World):(Rtype.elem? 229).run Tryz.prog w=.ok (some 202) w:=by kernel_rfl
theorem mkF (p:Addr) (w:World):(ReflectliteValue.mk 202 p ReflectliteValue.flagAddr).run Tryz.prog w=.ok (.agg #[.pointer (some ⟨13,202,none⟩),.pointer (some p),.int .u64 406]) w:=by kernel_rfl
theorem elemVFF (a p:Addr) (W:World) (ha:W.cell? a=some (.pointer (some p))) :
  (ReflectliteValue.method (ReflectliteValue.valueError "reflectlite.Value.Elem" 0) ReflectliteValue.elem #[.agg #[.pointer (some ⟨13,229,none⟩),.pointer (some a),.int .u64 150]]).run Tryz.prog W
   = .ok (.agg #[.pointer (some ⟨13,202,none⟩),.pointer (some p),.int .u64 406]) W:=by
 rw[rlm]
 simp only[Sem.run_bind,partsFF,Result.andThen]
 simp[ReflectliteValue.elem,loadVar,isAgg,underlying,Tryz.underlying229,ha,Result.andThen,elemOfFF,mkF]
theorem rls (v x:Value):ReflectliteValue.set #[v,x]=(do
  let (some (dst,a,fl),some (src,b,_)):=(← ReflectliteValue.parts v,←ReflectliteValue.parts x)
   | unsupported (.noEntry "extern/(internal/reflectlite.Value).Set.zeroValue")
  if fl / ReflectliteValue.flagAddr % 2==0 then unsupported (.noEntry "extern/(internal/reflectlite.Value).Set.unaddressable")
  let val ← loadVar src b
  if ← Rtype.directlyAssignable dst src then storeVar dst a val
  else if ← Rtype.implements dst src then
   if (← Rtype.kind src)==20 then
    match val with
    | .nilIface=>unsupported (.noEntry "extern/reflectlite: a nil value of one interface type handed on as a value of another")
    | _=>storeVar dst a val
   else storeVar dst a (.iface src val)
  else panicString ("reflectlite.Set: value of type " ++ (← Rtype.spelt src) ++ " is not assignable to type " ++ (← Rtype.spelt dst))
  pure (.tuple #[])):=rfl
theorem partsFa (a:Addr) (w:World):(ReflectliteValue.parts (.agg #[.pointer (some ⟨13,202,none⟩),.pointer (some a),.int .u64 406])).run Tryz.prog w=.ok (some (202,a,406)) w:=by kernel_rfl
theorem partsF (a:Addr) (w:World):(ReflectliteValue.parts (.agg #[.pointer (some ⟨13,202,none⟩),.pointer (some a),.int .u64 150])).run Tryz.prog w=.ok (some (202,a,150)) w:=by kernel_rfl
theorem directF (w:World):(Rtype.directlyAssignable 202 202).run Tryz.prog w=.ok true w:=by kernel_rfl
theorem setF (ta b e:Addr) (old:Value) (W:World) (hb:W.cell? b=some (.pointer (some e))) (ht:W.cell? ta=some old) (hf:W.frozen? ta=false) :
  (ReflectliteValue.set #[.agg #[.pointer (some ⟨13,202,none⟩),.pointer (some ta),.int .u64 406],.agg #[.pointer (some ⟨13,202,none⟩),.pointer (some b),.int .u64 150]]).run Tryz.prog W
   = .ok (.tuple #[]) (W.setCell ta (.pointer (some e))):=by
 rw[rls]
 simp only[Sem.run_bind,partsFa,partsF,Result.andThen]
 simp[ReflectliteValue.flagAddr,loadVar,isAgg,underlying,Tryz.underlying202,hb,Result.andThen,directF,storeVar,Value.cells,storeCells,Addr.add]
 rw[run_store Tryz.prog W ta _ _ (by rfl)]
 simp[ht,hf]
theorem cell_lt {w:World} {a:Addr} {v:Value} (h:w.cell? a=some v):a.block<w.heap.size:=by
 rcases Nat.lt_or_ge a.block w.heap.size with h'|h'
 ·exact h'
 ·simp[World.cell?,Array.getElem?_eq_none h']at h
set_option maxHeartbeats 4000000 in
theorem as_hit (e t:Addr) (old:Value) (w:World) (hg:w.cell? ⟨12,0,none⟩=some (.iface 330 (.agg #[.pointer (some ⟨13,26,none⟩)]))) (ht0:w.cell? t=some old) (hf0:w.frozen? t=false) :
  Calls Tryz.prog 123 #[.iface 202 (.pointer (some e)),.iface 229 (.pointer (some t))] w fun ev w'=>ev=.returned (.bool true)∧w'=((((w.alloc (.cells #[.pointer (some t)] 229)).alloc (.cells #[.pointer (some ⟨13,229,none⟩),.pointer (some ⟨w.heap.size,0,none⟩),.int .u64 150] 285)).alloc (.cells #[.pointer (some ⟨13,229,none⟩),.pointer (some ⟨w.heap.size,0,none⟩),.int .u64 150] 285)).alloc (.cells #[.pointer (some e)] 202)).setCell t (.pointer (some e)):=by
 have h6:=@run_callFunc_extern Tryz.prog 169 _ (fun args=>ReflectliteValue.unpack (args.getD 0 (.tuple #[]))) Tryz.func169 (by kernel_rfl) (by kernel_rfl) (by kernel_rfl) (by kernel_rfl)
 have h7:=@run_callFunc_extern Tryz.prog 170 _ (ReflectliteValue.methodAny (ReflectliteValue.valueError "reflectlite.Value.Type" 0) (fun t _ _ _=>ReflectliteType.toType t)) Tryz.func170 (by kernel_rfl) (by kernel_rfl) (by kernel_rfl) (by kernel_rfl)
 have h8:=@run_callFunc_extern Tryz.prog 171 _ (ReflectliteValue.method (ReflectliteValue.valueError "reflectlite.Value.IsNil" 0) ReflectliteValue.isNil) Tryz.func171 (by kernel_rfl) (by kernel_rfl) (by kernel_rfl) (by kernel_rfl)
 have h27:=@run_callFunc_extern Tryz.prog 280 _ (ReflectliteType.abiMethod fun t=>do pure (.int .u8 (← Rtype.kind t))) Tryz.func280 (by kernel_rfl) (by kernel_rfl) (by kernel_rfl) (by kernel_rfl)
 have h37:=@run_callFunc_extern Tryz.prog 293 _ (ReflectliteType.method ReflectliteType.elem) Tryz.func293 (by kernel_rfl) (by kernel_rfl) (by kernel_rfl) (by kernel_rfl)
 have h38:=@run_callFunc_extern Tryz.prog 294 _ (ReflectliteType.relation "Implements" ReflectliteType.implements_) Tryz.func294 (by kernel_rfl) (by kernel_rfl) (by kernel_rfl) (by kernel_rfl)
 have h10:=@run_callFunc_extern Tryz.prog 173 _ ReflectliteType.typeOf Tryz.func173 (by kernel_rfl) (by kernel_rfl) (by kernel_rfl) (by kernel_rfl)
 have h35:=@run_callFunc_extern Tryz.prog 291 _ (ReflectliteType.relation "AssignableTo" ReflectliteType.assignableTo) Tryz.func291 (by kernel_rfl) (by kernel_rfl) (by kernel_rfl) (by kernel_rfl)
 have h11:=@run_callFunc_extern Tryz.prog 208 _ (ReflectliteValue.method (ReflectliteValue.valueError "reflectlite.Value.Elem" 0) ReflectliteValue.elem) Tryz.func208 (by kernel_rfl) (by kernel_rfl) (by kernel_rfl) (by kernel_rfl)
 have h12:=@run_callFunc_extern Tryz.prog 209 _ ReflectliteValue.set Tryz.func209 (by kernel_rfl) (by kernel_rfl) (by kernel_rfl) (by kernel_rfl)
 have tO:=typeOfF
 have mA:=methodAssignableTo
 have a25:=assignableF
 have v25:=valueOfF
 have f6:=valueOfFF
 have f7:=typeFF
 have mK:=methodKind
 have mE:=methodElem
 have mI:=methodImplements
 have k27:=kindFF
 have k25:=kindF
 have e27:=elemFF
 have i25:=implementsF
 have n8:=isNilFF ⟨w.heap.size,0,none⟩ t ((w.alloc (.cells #[.pointer (some t)] 229)).alloc (.cells #[.pointer (some ⟨13,229,none⟩),.pointer (some ⟨w.heap.size,0,none⟩),.int .u64 150] 285)) (by simp)
 have hlt:12<w.heap.size:=cell_lt hg
 have hg2:((w.alloc (.cells #[.pointer (some t)] 229)).alloc (.cells #[.pointer (some ⟨13,229,none⟩),.pointer (some ⟨w.heap.size,0,none⟩),.int .u64 150] 285)).cell? ⟨12,0,none⟩=some (.iface 330 (.agg #[.pointer (some ⟨13,26,none⟩)])):=by
  rw[World.cell?_alloc_lt _ _ ⟨12,0,none⟩ (by simp;omega),World.cell?_alloc_lt _ _ ⟨12,0,none⟩ hlt];exact hg
 have htl:t.block<w.heap.size:=cell_lt ht0
 have el:=elemVFF ⟨w.heap.size,0,none⟩ t (((w.alloc (.cells #[.pointer (some t)] 229)).alloc (.cells #[.pointer (some ⟨13,229,none⟩),.pointer (some ⟨w.heap.size,0,none⟩),.int .u64 150] 285)).alloc (.cells #[.pointer (some ⟨13,229,none⟩),.pointer (some ⟨w.heap.size,0,none⟩),.int .u64 150] 285)) (by rw[World.cell?_alloc_lt _ _ _ (by simp;omega),World.cell?_alloc_lt _ _ _ (by simp),World.cell?_alloc_at _ _ _ _ (by simp)];rfl)
 have st:=setF t ⟨w.heap.size+1+1+1,0,none⟩ e old ((((w.alloc (.cells #[.pointer (some t)] 229)).alloc (.cells #[.pointer (some ⟨13,229,none⟩),.pointer (some ⟨w.heap.size,0,none⟩),.int .u64 150] 285)).alloc (.cells #[.pointer (some ⟨13,229,none⟩),.pointer (some ⟨w.heap.size,0,none⟩),.int .u64 150] 285)).alloc (.cells #[.pointer (some e)] 202))
  (by rw[World.cell?_alloc_at _ _ _ _ (by simp)];rfl)
  (by rw[World.cell?_alloc_lt _ _ t (by simp;omega),World.cell?_alloc_lt _ _ t (by simp;omega),World.cell?_alloc_lt _ _ t (by simp;omega),World.cell?_alloc_lt _ _ t htl];exact ht0)
  (by rw[World.frozen?_alloc_old _ _ t (by simp;omega),World.frozen?_alloc_old _ _ t (by simp;omega),World.frozen?_alloc_old _ _ t (by simp;omega),World.frozen?_alloc_old _ _ t (Nat.ne_of_lt htl)];exact hf0)
 go_enter Tryz.func123,Tryz.ntmps123
 go_wp2
 refine wp_loop_rounds 1 ?_
 rw[rounds_succ]
 go_wp2
 go_ret
 exact⟨rfl,rfl⟩
set_option maxHeartbeats 4000000 in
theorem as_miss (e t:Addr) (w:World) (hg:w.cell? ⟨12,0,none⟩=some (.iface 330 (.agg #[.pointer (some ⟨13,26,none⟩)]))) :
  Calls Tryz.prog 123 #[.iface 390 (.pointer (some e)),.iface 229 (.pointer (some t))] w fun ev w'=>ev=.returned (.bool false)∧w'=(((w.alloc (.cells #[.pointer (some t)] 229)).alloc (.cells #[.pointer (some ⟨13,229,none⟩),.pointer (some ⟨w.heap.size,0,none⟩),.int .u64 150] 285)).alloc (.cells #[.pointer (some ⟨13,229,none⟩),.pointer (some ⟨w.heap.size,0,none⟩),.int .u64 150] 285)):=by
 have h6:=@run_callFunc_extern Tryz.prog 169 _ (fun args=>ReflectliteValue.unpack (args.getD 0 (.tuple #[]))) Tryz.func169 (by kernel_rfl) (by kernel_rfl) (by kernel_rfl) (by kernel_rfl)
 have h7:=@run_callFunc_extern Tryz.prog 170 _ (ReflectliteValue.methodAny (ReflectliteValue.valueError "reflectlite.Value.Type" 0) (fun t _ _ _=>ReflectliteType.toType t)) Tryz.func170 (by kernel_rfl) (by kernel_rfl) (by kernel_rfl) (by kernel_rfl)
 have h8:=@run_callFunc_extern Tryz.prog 171 _ (ReflectliteValue.method (ReflectliteValue.valueError "reflectlite.Value.IsNil" 0) ReflectliteValue.isNil) Tryz.func171 (by kernel_rfl) (by kernel_rfl) (by kernel_rfl) (by kernel_rfl)
 have h27:=@run_callFunc_extern Tryz.prog 280 _ (ReflectliteType.abiMethod fun t=>do pure (.int .u8 (← Rtype.kind t))) Tryz.func280 (by kernel_rfl) (by kernel_rfl) (by kernel_rfl) (by kernel_rfl)
 have h37:=@run_callFunc_extern Tryz.prog 293 _ (ReflectliteType.method ReflectliteType.elem) Tryz.func293 (by kernel_rfl) (by kernel_rfl) (by kernel_rfl) (by kernel_rfl)
 have h38:=@run_callFunc_extern Tryz.prog 294 _ (ReflectliteType.relation "Implements" ReflectliteType.implements_) Tryz.func294 (by kernel_rfl) (by kernel_rfl) (by kernel_rfl) (by kernel_rfl)
 have h10:=@run_callFunc_extern Tryz.prog 173 _ ReflectliteType.typeOf Tryz.func173 (by kernel_rfl) (by kernel_rfl) (by kernel_rfl) (by kernel_rfl)
 have h35:=@run_callFunc_extern Tryz.prog 291 _ (ReflectliteType.relation "AssignableTo" ReflectliteType.assignableTo) Tryz.func291 (by kernel_rfl) (by kernel_rfl) (by kernel_rfl) (by kernel_rfl)
 have tO:=isTypeOf
 have mA:=methodAssignableTo
 have a25:=assignableT
 have f6:=valueOfFF
 have f7:=typeFF
 have mK:=methodKind
 have mE:=methodElem
 have mI:=methodImplements
 have k27:=kindFF
 have k25:=kindF
 have e27:=elemFF
 have i25:=implementsF
 have nA:=noAsE
 have uE:=noUnwrapE
 have vE:=noUnwrapsE
 have n8:=isNilFF ⟨w.heap.size,0,none⟩ t ((w.alloc (.cells #[.pointer (some t)] 229)).alloc (.cells #[.pointer (some ⟨13,229,none⟩),.pointer (some ⟨w.heap.size,0,none⟩),.int .u64 150] 285)) (by simp)
 have hlt:12<w.heap.size:=cell_lt hg
 have hg2:((w.alloc (.cells #[.pointer (some t)] 229)).alloc (.cells #[.pointer (some ⟨13,229,none⟩),.pointer (some ⟨w.heap.size,0,none⟩),.int .u64 150] 285)).cell? ⟨12,0,none⟩=some (.iface 330 (.agg #[.pointer (some ⟨13,26,none⟩)])):=by
  rw[World.cell?_alloc_lt _ _ ⟨12,0,none⟩ (by simp;omega),World.cell?_alloc_lt _ _ ⟨12,0,none⟩ hlt];exact hg
 go_enter Tryz.func123,Tryz.ntmps123
 go_wp2
 refine wp_loop_rounds 1 ?_
 rw[rounds_succ]
 go_wp2
 go_ret
 exact⟨rfl,rfl⟩
end Go.Proofs.YtmkapocibaojdaaGreatDoor.Er
end
section
namespace Go.Proofs.YtmkapocibaojdaaGreatDoor
open Go Go.Sx
abbrev eO (er:Nat→Addr) (eb:Nat→Array Value×TypeId) (k:Nat):Value×D:=(.pointer (some (er k)),.obj (.cells (eb k).1 (eb k).2 (0,0)))
def cglobs (er:Nat→Addr) (eb:Nat→Array Value×TypeId):List (Value×D):=[dE 390 er 7 1,dE 390 er 0 2,dE 390 er 1 3,dE 390 er 8 4,dE 390 er 4 5,dE 390 er 9 6,dE 390 er 10 7,dE 390 er 6 8,dE 390 er 5 9,dE 390 er 2 10,dE 390 er 3 11,dE 390 er 11 12,(.pointer (some ⟨12,0,none⟩),.ptr [.v (.iface 330 (.agg #[.pointer (some ⟨13,26,none⟩)]))]),eO er eb 1,eO er eb 2,eO er eb 3,eO er eb 4,eO er eb 5,eO er eb 6,eO er eb 7,eO er eb 8,eO er eb 9,eO er eb 10,eO er eb 11,eO er eb 12]
abbrev dC (er:Nat→Addr) (eb:Nat→Array Value×TypeId):D:=.all (cglobs er eb)
def Inj (er:Nat→Addr):Prop:=∀i j,1≤i→i≤12→1≤j→j≤12→er i=er j→i=j
theorem eO_mem (er:Nat→Addr) (eb:Nat→Array Value×TypeId) {k:Nat} (h1:1≤k) (h2:k≤12):eO er eb k∈cglobs er eb:=by
 rcases(by omega:k=1∨k=2∨k=3∨k=4∨k=5∨k=6∨k=7∨k=8∨k=9∨k=10∨k=11∨k=12)with rfl|rfl|rfl|rfl|rfl|rfl|rfl|rfl|rfl|rfl|rfl|rfl <;> simp[cglobs,eO]
set_option maxHeartbeats 4000000 in
theorem globs_of {w:World} {S:Nat→Prop} {er:Nat→Addr} {eb:Nat→Array Value×TypeId} (h:Rep w S .nilIface (dC er eb)):AllG w S (globs er):=
 .cons (.v rfl) (.cons (h.part _ (List.mem_of_getElem? (i:=1) rfl)) (.cons (h.part _ (List.mem_of_getElem? (i:=2) rfl)) (.nil _ _)))
set_option maxHeartbeats 4000000 in
theorem blk_of {w:World} {S:Nat→Prop} {a:Addr} {o:Obj} (h:Rep w S (.pointer (some a)) (.obj o)):w.heap[a.block]?=some o:=by
 cases h with
 | obj hb=>exact hb
set_option maxHeartbeats 4000000 in
theorem var_of {w:World} {S:Nat→Prop} {g:Nat} {v:Value} (h:Rep w S (.pointer (some ⟨g,0,none⟩)) (.ptr [.v v])):w.cell? ⟨g,0,none⟩=some v:=by
 cases h with
 | ptr u hb hS hcell hrep=>
  have h1:=(hrep 0 _ rfl).plain
  have h2:=hcell 0 (by simp)
  rw[h1]at h2
  simpa [World.cell?,hb]using h2
set_option maxHeartbeats 4000000 in
theorem isAt {w:World} {S:Nat→Prop} {a:Addr} {ca:Array Value} {ta:TypeId} {er:Nat→Addr} {eb:Nat→Array Value×TypeId} {j:Nat} (hC:Rep w S .nilIface (dC er eb)) (ha:Rep w S (.pointer (some a)) (.obj (.cells ca ta (0,0)))) (h1:1≤j) (h2:j≤12) :
  Calls Tryz.prog 124 #[.iface 390 (.pointer (some a)),.iface 390 (.pointer (some (er j)))] w fun e w'=>Ret [] w S w' e (.bool (decide (a=er j))) [] []:=by
 by_cases h:a=er j
 ·subst h
  rw[decide_eq_true rfl]
  exact(Er.is_same _ w).mono fun e w' h=>ret_same h.1 h.2
 ·rw[decide_eq_false h]
  exact(Er.is_other a (er j) ca (eb j).1 ta (eb j).2 w h (blk_of ha) (blk_of (hC.part _ (eO_mem er eb h1 h2)))).mono fun e w' h=>ret_same h.1 h.2
set_option maxHeartbeats 4000000 in
theorem asMiss {w:World} {S:Nat→Prop} {a t:Addr} {er:Nat→Addr} {eb:Nat→Array Value×TypeId} (hC:Rep w S .nilIface (dC er eb)) :
  Calls Tryz.prog 123 #[.iface 390 (.pointer (some a)),.iface 229 (.pointer (some t))] w fun e w'=>Ret [] w S w' e (.bool false) [] []:=
 (Er.as_miss a t w (var_of (hC.part _ (List.mem_of_getElem? (i:=12) rfl)))).mono fun e w' h=>ret_below h.1 (by
  rw[h.2]
  exact(((RowKit.Below.refl _ w).alloc (Nat.le_refl _) _).alloc (by simp) _).alloc (by simp;omega) _) (by rw[h.2];exact Nat.le_refl _)
abbrev eEr (er:Nat→Addr) (k:Nat):List D:=[.v (.iface 390 (.pointer (some (er k))))]
theorem row12 {i:Int} (h0:0≤i) (h1:i<12):([1,2,3,4,5,6,7,8,9,10,11,12]:List Nat)[i.toNat]?=some (i.toNat+1):=by
 obtain⟨n,rfl⟩:∃n:Nat,i=n:=⟨i.toNat,by omega⟩
 rcases(by omega:n=0∨n=1∨n=2∨n=3∨n=4∨n=5∨n=6∨n=7∨n=8∨n=9∨n=10∨n=11)with rfl|rfl|rfl|rfl|rfl|rfl|rfl|rfl|rfl|rfl|rfl|rfl <;> rfl
set_option maxHeartbeats 4000000 in
theorem codeErr {w:World} {S:Nat→Prop} {er:Nat→Addr} {eb:Nat→Array Value×TypeId} {k:Nat} {v:Value} (hC:Rep w S .nilIface (dC er eb)) (hI:Inj er) (hk:k≤12) (hv:ErrIs 390 er k v) :
  Calls Tryz.prog 60 #[v] w fun e w'=>Ret [] w S w' e (.tuple #[.int .i64 k,.int .i64 (-1)]) [] []:=by
 rcases hv with ⟨rfl,rfl⟩|⟨h0,rfl⟩
 ·refine epG Tryz.func60 bd60 (args:=[.nilIface]) (S:=S) (G:=[]) (by kernel_rfl) (.nil _ _) ?_
  refine Zs [zR 0,zR 1] [] [zI 2 0,zI 3 0] ?_
  refine J_seq ?_
  refine Zs [zR 0,zR 1] [] [zB 8 true] ?_
  refine cTt ?_
  refine Zs [zR 0,zR 1] [8] [zI 3 (-1)] ?_
  refine Yr [[],[]] (.tuple #[nI 0,nI (-1)]) fun a w s=>?_
  exact s.ret (by simp) [] [] rfl rfl
 ·refine epG Tryz.func60 bd60 (args:=[.iface 390 (.pointer (some (er k)))]) (G:=[(_,dC er eb)]) (by kernel_rfl) (.cons hC (.nil _ _)) ?_
  refine J_stp (stp_all 0 [0,1,2,3,4,5,6,7,8,9,10,11] rfl rfl) ?_
  refine J_glob 1 rfl (fun csg1 tyg1 fzg1 hglob1=>?_)
  refine J_glob 2 rfl (fun csg2 tyg2 fzg2 hglob2=>?_)
  refine J_glob 3 rfl (fun csg3 tyg3 fzg3 hglob3=>?_)
  refine J_glob 4 rfl (fun csg4 tyg4 fzg4 hglob4=>?_)
  refine J_glob 5 rfl (fun csg5 tyg5 fzg5 hglob5=>?_)
  refine J_glob 6 rfl (fun csg6 tyg6 fzg6 hglob6=>?_)
  refine J_glob 7 rfl (fun csg7 tyg7 fzg7 hglob7=>?_)
  refine J_glob 8 rfl (fun csg8 tyg8 fzg8 hglob8=>?_)
  refine J_glob 9 rfl (fun csg9 tyg9 fzg9 hglob9=>?_)
  refine J_glob 10 rfl (fun csg10 tyg10 fzg10 hglob10=>?_)
  refine J_glob 11 rfl (fun csg11 tyg11 fzg11 hglob11=>?_)
  refine J_glob 12 rfl (fun csg12 tyg12 fzg12 hglob12=>?_)
  try simp only[aQ]
  refine Zs [zR 0,zR 1] [] [zI 2 0,zI 3 0] ?_
  refine J_seq ?_
  refine Zs [zR 0,zR 1] [] [zB 8 false] ?_
  refine cF ?_
  refine J_skip ?_
  refine Zs [zR 0] [8] [zI 3 (-1)] ?_
  refine Zv [.wr 0 [] 0] [] [] (fun nu1=>[zP 4 (nu1 0)]) o0 (fun nu1=>[(nu1 0,.cells #[.pointer none] 202 (0,0))]) (fun nu1=>?_)
  refine J_seq ?_
  refine jS [(0,true),(1,true),(2,false)] [] ?_
  refine Ya [zR 0,zR 1] [] [zV 9 (.iface 390 (.pointer (some (er k)))),zV 10 (.iface 229 (.pointer (sA (nu1 0) 0)))] ?_
  refine Yc 123 #[.iface 390 (.pointer (some (er k))),.iface 229 (.pointer (sA (nu1 0) 0))] (some 11) fun w S hG=>?_
  refine(asMiss (hG.at 0 rfl)).mono ?_
  rintro e1 w1 hR
  refine⟨_,_,_,hR,?_⟩
  try simp only[aQ]
  refine JR_end ?_
  refine cF ?_
  refine J_skip (J_seq ?_)
  refine Zu [.rd 0 [.r 0 (some (.iface 390 (.pointer (some (er 1)))))] 0 0,.rd 1 [.r 1 (some (.iface 390 (.pointer (some (er 2)))))] 0 0,.rd 2 [.r 2 (some (.iface 390 (.pointer (some (er 3)))))] 0 0,.rd 3 [.r 3 (some (.iface 390 (.pointer (some (er 4)))))] 0 0,.rd 4 [.r 4 (some (.iface 390 (.pointer (some (er 5)))))] 0 0,.rd 5 [.r 5 (some (.iface 390 (.pointer (some (er 6)))))] 0 0,.rd 6 [.r 6 (some (.iface 390 (.pointer (some (er 7)))))] 0 0,.rd 7 [.r 7 (some (.iface 390 (.pointer (some (er 8)))))] 0 0,.rd 8 [.r 8 (some (.iface 390 (.pointer (some (er 9)))))] 0 0,.rd 9 [.r 9 (some (.iface 390 (.pointer (some (er 10)))))] 0 0,.rd 10 [.r 10 (some (.iface 390 (.pointer (some (er 11)))))] 0 0,.rd 11 [.r 11 (some (.iface 390 (.pointer (some (er 12)))))] 0 0,.wr 12 [] 0,zR 13,zR 14] [] [11,9,10,4] (fun nu2=>[zS 28 (sA (nu2 0) 0) 12 12,zI 29 12,zI 30 0]) o0 (fun nu2=>[(nu2 0,.cells #[.iface 390 (.pointer (some (er 1))),.iface 390 (.pointer (some (er 2))),.iface 390 (.pointer (some (er 3))),.iface 390 (.pointer (some (er 4))),.iface 390 (.pointer (some (er 5))),.iface 390 (.pointer (some (er 6))),.iface 390 (.pointer (some (er 7))),.iface 390 (.pointer (some (er 8))),.iface 390 (.pointer (some (er 9))),.iface 390 (.pointer (some (er 10))),.iface 390 (.pointer (some (er 11))),.iface 390 (.pointer (some (er 12)))] 26 (0,0))]) (fun nu2=>(oC hglob1 (oC hglob2 (oC hglob3 (oC hglob4 (oC hglob5 (oC hglob6 (oC hglob7 (oC hglob8 (oC hglob9 (oC hglob10 (oC hglob11 (oC hglob12 oN))))))))))))) (fun nu2=>?_)
  refine J_block ?_
  refine J_data (size:=1) 1 (eEr er) [1,2,3,4,5,6,7,8,9,10,11,12] 12 rfl (by decide) (by intro x _;rfl) (by simp) ⟨.inl ⟨rfl,rfl⟩,⟨.inl ⟨rfl,rfl⟩,⟨.inl ⟨rfl,rfl⟩,⟨.inl ⟨rfl,rfl⟩,⟨.inl ⟨rfl,rfl⟩,⟨.inl ⟨rfl,rfl⟩,⟨.inl ⟨rfl,rfl⟩,⟨.inl ⟨rfl,rfl⟩,⟨.inl ⟨rfl,rfl⟩,⟨.inl ⟨rfl,rfl⟩,⟨.inl ⟨rfl,rfl⟩,⟨.inl ⟨rfl,rfl⟩,trivial⟩⟩⟩⟩⟩⟩⟩⟩⟩⟩⟩⟩ ?_
  refine J_loopx (fun i:Int=>[zV 0 (.iface 390 (.pointer (some (er k)))),zI 2 0,zI 3 (-1),zS 28 (sA (nu2 0) 0) 12 12,zI 29 12,zI 30 i]) (fun i:Int=>[]) (fun i:Int=>[]) (fun i:Int=>[(.nilIface,(dC er eb)),(.slice (sA (nu2 0) 0) ((List.map (eEr er) [1,2,3,4,5,6,7,8,9,10,11,12]).length) 12,(D.sl 1 (List.map (eEr er) [1,2,3,4,5,6,7,8,9,10,11,12])))]) (fun i:Int=>(12 - i).toNat) (fun i:Int=>(0≤i∧i<k)) 0 [0,2,3,28,29,30] [] [] [0,13] ?_ (by kernel_rfl) rfl rfl rfl ?_
  ·exact⟨by omega,by omega⟩
  rintro i ⟨hi0,hi⟩
  have hx:=row12 hi0 (by omega)
  refine J_read0 1 rfl i.toNat (map_at hx) (by kernel_rfl) (fun b1 off1 cs1 ty1 fz1 ha1 hrd1=>?_)
  cases ha1
  have hrd1_0:=rd0 (hrd1 0 _ rfl)
  try simp only[aQ]
  refine Zs [zR 0] [] [zB 31 (decide (i<12))] ?_
  refine J_seq ?_
  refine J_condT (decide (i<12)) (by kernel_rfl) (by kernel_rfl) (by simp;omega) ?_
  refine J_skip (J_seq (J_block ?_))
  refine Zt [zR 0,.rd 1 [] 0 2,.rd 2 [.r 12 (some (.iface 390 (.pointer (some (er (i.toNat+1))))))] 0 0,zR 3,zR 4] [31] [zI 5 i,zV 6 (.iface 390 (.pointer (some (er (i.toNat+1)))))] (oC hi0 (oC (show i<(↑(12:Nat):Int) from by omega) (oC hrd1_0 oN))) ?_
  refine jS [(0,true),(1,true),(2,false)] [] ?_
  refine Ya [zR 0,zR 1] [] [zV 35 (.iface 390 (.pointer (some (er k)))),zV 36 (.iface 390 (.pointer (some (er (i.toNat+1)))))] ?_
  refine Yc 124 #[.iface 390 (.pointer (some (er k))),.iface 390 (.pointer (some (er (i.toNat+1))))] (some 37) fun w S hG=>?_
  refine(isAt (hG.at 0 rfl) ((hG.at 0 rfl).part _ (eO_mem er eb (k:=k) (by omega) hk)) (by omega) (by omega)).mono ?_
  rintro e2 w2 hR
  refine⟨_,_,_,hR,?_⟩
  try simp only[aQ]
  refine JR_end ?_
  refine cC (t:=decide (er k=er (i.toNat+1))) (fun hb=>?_) (fun hb=>?_)
  ·refine J_seq ?_
   refine Zp ([zR 0,.rd 1 [] 0 1]++Rds 2 5) [37] [zI 2 (i+1)] (oC (show IntKind.i64.wrap (i+1)=i+1 from wrap_i64 (by omega) (by omega)) oN) ?_
   refine Yr [[],[]] (.tuple #[nI (i+1),nI (-1)]) fun a w s=>?_
   have e:i+1=k:=by
    have:=hI k (i.toNat+1) (by omega) hk (by omega) (by omega) (of_decide_eq_true hb)
    omega
   rw[e]
   exact s.ret (by simp) [] [] rfl rfl
  ·refine J_skip ?_
   refine J_eb ?_
   refine Zp [.rd 0 [] 0 1,zR 1] [37] [zI 30 (i+1)] (oC (show IntKind.i64.wrap (i+1)=i+1 from wrap_i64 (by omega) (by omega)) oN) ?_
   refine J_backx (i+1) [0,2,3,28,29,30] [] [] [0,1] ?_ ?_ (by kernel_rfl) rfl rfl rfl
   ·refine⟨by omega,?_⟩
    rcases(by omega:i+1<k∨(i.toNat+1=k))with h|h
    ·exact h
    ·rw[h]at hb
     simp at hb
   ·omega
end Go.Proofs.YtmkapocibaojdaaGreatDoor
end
section
namespace Go.Proofs.YtmkapocibaojdaaGreatDoor
open Go Go.Sx
def dotOk (places:Int) (d:DotT):Bool:=((((decide (d.place≥0)&&decide (d.place<places))&&decide (d.time≥1))&&decide (d.time≤1099511627776))&&decide (d.no≥0))&&decide (d.no<12)
def shapeOk (o:OpT):Bool:=
 if o.kind=1 then o.n==0&&!o.remove&&(o.dots.length:Int)==0
 else if o.kind=2 then o.text.toList==(ByteArray.mk #[]).toList&&!o.remove&&(o.dots.length:Int)==0
 else o.n==0&&(o.remove||(o.dots.length:Int)==0)
def badDots (places:Int) (l:List DotT):Bool:=l.any fun d=>!dotOk places d
def opErr (o:OpT) (places:Int):Nat:=
 if places<1∨6<places∨o.no<0∨12≤o.no then 2
 else if nameOk o.key=false then 4
 else if o.kind≠1∧o.kind≠2∧o.kind≠3 then 12
 else if shapeOk o=false then 3
 else if 60<o.text.size∨o.n < -1099511627776∨1099511627776<o.n∨60<o.dots.length then 2
 else if badDots places o.dots=true then 2
 else 0
abbrev dotA (d:DotT):Value:=.agg #[.int .i64 d.place,.int .i64 d.time,.int .i64 d.no]
abbrev opA (o:OpT) (v:Value):Value:=.agg #[.int .i64 o.no,.string o.key,.int .i64 o.kind,.string o.text,.int .i64 o.n,.bool o.remove,v]
set_option maxHeartbeats 4000000 in
theorem vDot {w:World} {S:Nat→Prop} {d:DotT} {places:Int}:Calls Tryz.prog 187 #[dotA d,.int .i64 places] w fun e w'=>Ret [] w S w' e (.bool (dotOk places d)) [] []:=by
 refine epG Tryz.func187 bd187 (args:=[dotA d,.int .i64 places]) (G:=[]) (by kernel_rfl) (AllG.nil w S) ?_
 refine Zv [.wr 0 [] 0,zR 1] [] [0] (fun nu1=>[zP 2 (nu1 0),zB 4 false]) o0 (fun nu1=>[(nu1 0,.cells #[nI d.place,nI d.time,nI d.no] 177 (0,0))]) (fun nu1=>?_)
 refine Zs [zR 0,.rd 1 [.o 0 none] 0 0,zR 2,zR 3,.rd 4 [] 2 0,.rd 5 [.o 0 none] 2 0,.rd 6 [] 2 0,.rd 7 [] 2 0,.rd 8 [] 0 3,zR 9,.rd 10 [] 2 0,.rd 11 [.o 0 none] 2 0,.rd 12 [] 2 0,.rd 13 [] 0 3,zR 14,.rd 15 [] 2 0,.rd 16 [.o 0 none] 2 0,.rd 17 [] 2 0,.rd 18 [] 0 3,zR 19,.rd 20 [] 2 0,.rd 21 [.o 0 none] 2 0,.rd 22 [] 2 0,.rd 23 [] 0 3,zR 24,.rd 25 [] 2 0,.rd 26 [.o 0 none] 2 0,.rd 27 [] 2 0,.rd 28 [] 0 3,zR 29] [2,1] [zB 4 (decide (d.place≥0)&&decide (d.place<places)&&decide (d.time≥1)&&decide (d.time≤1099511627776)&&decide (d.no≥0)&&decide (d.no<12))] ?_
 refine Yr [[]] (.bool (decide (d.place≥0)&&decide (d.place<places)&&decide (d.time≥1)&&decide (d.time≤1099511627776)&&decide (d.no≥0)&&decide (d.no<12))) fun a w s=>?_
 exact s.ret (by simp) [] [] rfl rfl
set_option maxHeartbeats 4000000 in
theorem vShape {w:World} {S:Nat→Prop} {o:OpT} {a:Option Addr} {n c:Nat} (h:Rep w S (.slice a n c) (.sl 3 (o.dots.map eDot))):Calls Tryz.prog 184 #[opA o (.slice a n c)] w fun e w'=>Ret [] w S w' e (.bool (shapeOk o)) [] []:=by
 have e1:=h.slen
 rw[List.length_map]at e1
 subst e1
 refine epG Tryz.func184 bd184 (args:=[opA o (.slice a o.dots.length c)]) (G:=[]) (by kernel_rfl) (AllG.nil w S) ?_
 by_cases h1:o.kind=1
 ·refine J_seq ?_
  refine Zm [.wr 0 [] 0,zR 1] [] [0] (fun nu1=>[zP 1 (nu1 0),zB 2 false]) o0 (fun nu1=>[(nu1 0,.cells #[nI o.no,.string o.key,nI o.kind,.string o.text,nI o.n,.bool o.remove,.slice a o.dots.length c] 55 (0,0))]) (fun nu1=>?_)
  refine J_seq ?_
  refine Zs [zR 0,.rd 1 [.o 0 none] 0 0] [] [zI 4 o.kind] ?_
  refine J_block ?_
  refine Zt [.rd 0 [] 0 6,zR 1] [] [zB 5 true] (oC (show(o.kind==(1:Int))=true from by simp;omega) oN) ?_
  refine cTt ?_
  refine Zs [zR 0,.rd 1 [.o 0 none] 0 0,zR 2,zR 3,.rd 4 [] 2 0,.rd 5 [.o 0 none] 2 0,.rd 6 [] 2 0,.rd 7 [] 0 3,zR 8,.rd 9 [] 2 0,.rd 10 [.o 0 none] 2 0,.rd 11 [] 2 0,.rd 12 [] 2 0,.rd 13 [] 0 3,zR 14] [5,4] [zB 2 (o.n==0&&!o.remove&&(↑o.dots.length:Int)==0)] ?_
  refine Yr [[]] (.bool (o.n==0&&!o.remove&&(↑o.dots.length:Int)==0)) fun a w s=>?_
  rw[shapeOk,if_pos h1]
  exact s.ret (by simp) [] [] rfl rfl
 ·by_cases h2:o.kind=2
  ·refine J_seq ?_
   refine Zm [.wr 0 [] 0,zR 1] [] [0] (fun nu1=>[zP 1 (nu1 0),zB 2 false]) o0 (fun nu1=>[(nu1 0,.cells #[nI o.no,.string o.key,nI o.kind,.string o.text,nI o.n,.bool o.remove,.slice a o.dots.length c] 55 (0,0))]) (fun nu1=>?_)
   refine J_seq ?_
   refine Zs [zR 0,.rd 1 [.o 0 none] 0 0] [] [zI 4 o.kind] ?_
   refine J_block ?_
   refine Zt [.rd 0 [] 0 7,zR 1] [] [zB 5 false] (oC (show(o.kind==(1:Int))=false from by simp;omega) oN) ?_
   refine cF ?_
   refine Zt [.rd 0 [] 0 6,zR 1] [5,4] [zB 21 true] (oC (show(o.kind==(2:Int))=true from by simp;omega) oN) ?_
   refine cTt ?_
   refine Zs [zR 0,.rd 1 [.o 0 none] 0 0,zR 2,zR 3,.rd 4 [] 2 0,.rd 5 [.o 0 none] 2 0,.rd 6 [] 2 0,.rd 7 [] 0 3,zR 8,.rd 9 [] 2 0,.rd 10 [.o 0 none] 2 0,.rd 11 [] 2 0,.rd 12 [] 2 0,.rd 13 [] 0 3,zR 14] [21] [zB 2 (o.text.toList==(ByteArray.mk #[]).toList&&!o.remove&&(↑o.dots.length:Int)==0)] ?_
   refine Yr [[]] (.bool (o.text.toList==(ByteArray.mk #[]).toList&&!o.remove&&(↑o.dots.length:Int)==0)) fun a w s=>?_
   rw[shapeOk,if_neg h1,if_pos h2]
   exact s.ret (by simp) [] [] rfl rfl
  ·by_cases h3:o.n=0
   ·refine J_seq ?_
    refine Zm [.wr 0 [] 0,zR 1] [] [0] (fun nu1=>[zP 1 (nu1 0),zB 2 false]) o0 (fun nu1=>[(nu1 0,.cells #[nI o.no,.string o.key,nI o.kind,.string o.text,nI o.n,.bool o.remove,.slice a o.dots.length c] 55 (0,0))]) (fun nu1=>?_)
    refine J_seq ?_
    refine Zs [zR 0,.rd 1 [.o 0 none] 0 0] [] [zI 4 o.kind] ?_
    refine J_block ?_
    refine Zt [.rd 0 [] 0 7,zR 1] [] [zB 5 false] (oC (show(o.kind==(1:Int))=false from by simp;omega) oN) ?_
    refine cF ?_
    refine Zt [.rd 0 [] 0 7,zR 1] [5,4] [zB 21 false] (oC (show(o.kind==(2:Int))=false from by simp;omega) oN) ?_
    refine cF ?_
    refine J_skip (J_eb ?_)
    refine Zt [zR 0,.rd 1 [.o 0 none] 0 0,.rd 2 [] 0 6,zR 3,zR 4,.rd 5 [.o 0 none] 0 0,zR 6,.rd 7 [] 2 0,.rd 8 [.o 0 none] 2 0,.rd 9 [] 2 0,.rd 10 [] 2 0,.rd 11 [] 0 3,zR 12,zR 13] [21,1] [zB 2 (o.remove||(↑o.dots.length:Int)==0)] (oC (show(o.n==(0:Int))=true from by simp;omega) oN) ?_
    refine Yr [[]] (.bool (o.remove||(↑o.dots.length:Int)==0)) fun a w s=>?_
    rw[shapeOk,if_neg h1,if_neg h2,show(o.n==0)=true by simpa using h3,Bool.true_and]
    exact s.ret (by simp) [] [] rfl rfl
   ·refine J_seq ?_
    refine Zm [.wr 0 [] 0,zR 1] [] [0] (fun nu1=>[zP 1 (nu1 0),zB 2 false]) o0 (fun nu1=>[(nu1 0,.cells #[nI o.no,.string o.key,nI o.kind,.string o.text,nI o.n,.bool o.remove,.slice a o.dots.length c] 55 (0,0))]) (fun nu1=>?_)
    refine J_seq ?_
    refine Zs [zR 0,.rd 1 [.o 0 none] 0 0] [] [zI 4 o.kind] ?_
    refine J_block ?_
    refine Zt [.rd 0 [] 0 7,zR 1] [] [zB 5 false] (oC (show(o.kind==(1:Int))=false from by simp;omega) oN) ?_
    refine cF ?_
    refine Zt [.rd 0 [] 0 7,zR 1] [5,4] [zB 21 false] (oC (show(o.kind==(2:Int))=false from by simp;omega) oN) ?_
    refine cF ?_
    refine J_skip (J_eb ?_)
    refine Zt [zR 0,.rd 1 [.o 0 none] 0 0,.rd 2 [] 0 7,zR 3,.rd 4 [] 1 0,.rd 5 [] 1 0,.rd 6 [] 1 0,.rd 7 [] 1 0,.rd 8 [] 1 0,.rd 9 [] 1 0,.rd 10 [] 1 0,.rd 11 [] 1 0,zR 12,zR 13] [21,1] [] (oC (show(o.n==(0:Int))=false from by simp;omega) oN) ?_
    refine Yr [[]] (.bool false) fun a w s=>?_
    rw[shapeOk,if_neg h1,if_neg h2,show(o.n==0)=false by simpa using h3,Bool.false_and]
    exact s.ret (by simp) [] [] rfl rfl
theorem opRest {o:OpT} {places:Int} (h1:¬(places<1∨6<places∨o.no<0∨12≤o.no)) (h2:nameOk o.key=true) (h3:o.kind=1∨o.kind=2∨o.kind=3) (h4:shapeOk o=true):opErr o places=if 60<o.text.size∨o.n < -1099511627776∨1099511627776<o.n∨60<o.dots.length then 2 else if badDots places o.dots=true then 2 else 0:=by
 unfold opErr
 rw[if_neg h1,if_neg (by simp[h2]),if_neg (by omega),if_neg (by simp[h4])]
theorem opShape {o:OpT} {places:Int} (h1:¬(places<1∨6<places∨o.no<0∨12≤o.no)) (h2:nameOk o.key=true) (h3:o.kind=1∨o.kind=2∨o.kind=3) (h4:shapeOk o=false):opErr o places=3:=by
 unfold opErr
 rw[if_neg h1,if_neg (by simp[h2]),if_neg (by omega),if_pos h4]
theorem gt0 (l:Nat):decide ((l:Int)>0)=!((l:Int)==0):=by
 by_cases h:l=0
 ·subst h;rfl
 ·rw[decide_eq_true (by omega),show((l:Int)==0)=false by simpa using h];rfl
theorem nsh (e r:Bool) (l:Nat):(!e||r||decide ((l:Int)>0))=!(e&&!r&&(l:Int)==0):=by
 rw[gt0]
 generalize ((l:Int)==0)=x
 cases e <;> cases r <;> cases x <;> rfl
theorem nsh3 (r:Bool) (l:Nat):(!r&&decide ((l:Int)>0))=!(r||(l:Int)==0):=by
 rw[gt0]
 generalize ((l:Int)==0)=x
 cases r <;> cases x <;> rfl
theorem not_t {x:Bool} (h:(!x)=true):x=false:=by cases x <;> simp_all
theorem not_f {x:Bool} (h:(!x)=false):x=true:=by cases x <;> simp_all
set_option maxHeartbeats 2000000 in
theorem opTail {w0:World} {S:Nat→Prop} {nb:Nat} {o:OpT} {a:Option Addr} {c:Nat} {places:Int} :
  J Tryz.prog Tryz.f27 (retR Tryz.prog Tryz.f27 fun e w'=>Ret [] w0 S w' e (.int .i64 (if 60<o.text.size∨o.n < -1099511627776∨1099511627776<o.n∨60<o.dots.length then 2 else if badDots places o.dots=true then 2 else 0:Nat)) [] []) Tryz.f27.ntmps
   [.c (.rg 17 false),.c (.cond (.tmp 96) (.seq (.rg 18 false) .ret) .skip),.c (.seq (.seq (.rg 19 false) (.block 1 (.loop (.seq (.seq (.rg 20 false) (.cond (.tmp 101) .skip (.exit 1))) (.seq (.block 2 (.seq (.rg 22 false) (.seq (.rg 23 false) (.cond (.tmp 137) (.seq (.rg 24 false) .ret) .skip)))) (.rg 21 false)))))) (.seq (.rg 25 false) .ret))]
   [(1,.val (.int .i64 places)),(2,.val (.pointer (some ⟨nb,0,none⟩))),(4,.val (.int .i64 0))] [(nb,.cells #[.int .i64 o.no,.string o.key,.int .i64 o.kind,.string o.text,.int .i64 o.n,.bool o.remove,.slice a o.dots.length c] 55 (0,0))] [] [([],w0)] ⟨newS S [] w0,[],[(.slice a o.dots.length c,.sl 3 (o.dots.map eDot))]⟩:=by
 refine Za ([zR 0,.rd 1 [.o 0 none] 0 0]++Rds 2 5++[.rd 5 [] 2 0,.rd 6 [.o 0 none] 2 0,.rd 7 [] 2 0,.rd 8 [] 0 3,zR 9,.rd 10 [] 2 0,.rd 11 [.o 0 none] 2 0,.rd 12 [] 2 0,.rd 13 [] 0 3,zR 14,.rd 15 [] 2 0,.rd 16 [.o 0 none] 2 0,.rd 17 [] 2 0,.rd 18 [] 2 0,.rd 19 [] 0 3]) [] [zB 96 (decide ((↑o.text.size:Int)>60)||decide (o.n < -1099511627776)||decide (o.n>1099511627776)||decide ((↑o.dots.length:Int)>60))] ?_
 refine cC (t:=decide ((↑o.text.size:Int)>60)||decide (o.n < -1099511627776)||decide (o.n>1099511627776)||decide ((↑o.dots.length:Int)>60)) (fun hb=>?_) (fun hb=>?_)
 ·rw[if_pos (by simp at hb;omega)]
  refine Zs [zR 0] [96] [zI 4 2] ?_
  refine Yr [[]] (nI 2) fun a w s=>?_
  exact s.ret (by simp) [] [] rfl rfl
 have hb2:¬(60<o.text.size∨o.n < -1099511627776∨1099511627776<o.n∨60<o.dots.length):=by simp at hb;omega
 rw[if_neg hb2]
 refine J_skip (J_seq ?_)
 refine Zs [zR 0] [96] [zI 6 0] ?_
 refine J_block ?_
 refine J_loopx (fun i:Int=>[zI 1 places,zP 2 nb,zI 4 0,zI 6 i]) (fun i:Int=>[(nb,.cells #[nI o.no,.string o.key,nI o.kind,.string o.text,nI o.n,.bool o.remove,.slice a o.dots.length c] 55 (0,0))]) (fun i:Int=>[]) (fun i:Int=>[(.slice a o.dots.length c,(D.sl 3 (List.map eDot o.dots)))]) (fun i:Int=>(o.dots.length - i).toNat) (fun i:Int=>(0≤i∧i≤o.dots.length∧∀j:Nat,j<i.toNat→∀d,o.dots[j]?=some d→dotOk places d=true)) 0 [1,2,4,6] [0] [] [0] ?_ (by kernel_rfl) rfl rfl rfl ?_
 ·exact⟨by simp,by omega,by simp⟩
 rintro i ⟨hi0,hi,hno⟩
 refine J_seq ?_
 refine Zs [zR 0,zR 1,.rd 2 [.o 0 none] 0 0,zR 3,zR 4] [] [zB 101 (decide (i<(↑o.dots.length:Int)))] ?_
 refine cC (t:=decide (i<(↑o.dots.length:Int))) (fun hlt=>?_) (fun hlt=>?_)
 ·have hlt2:i<o.dots.length:=by simpa using hlt
  obtain⟨x,hx⟩:∃x,o.dots[i.toNat]?=some x:=⟨_,List.getElem?_eq_getElem (by omega)⟩
  refine J_read0 0 rfl i.toNat (map_at hx) (by kernel_rfl) (fun b1 off1 cs1 ty1 fz1 ha1 hrd1=>?_)
  cases ha1
  have hrd1_0:=rd0 (hrd1 0 _ rfl)
  have hrd1_1:=hrd1 1 _ rfl
  have hrd1_2:=hrd1 2 _ rfl
  try simp only[aQ]
  refine J_skip (J_seq (J_block ?_))
  refine Zu [zR 0,.rd 1 [.o 0 none] 0 0,zR 2,.rd 3 [] 0 2,.rd 4 [.r 0 (some (nI x.place)),.r 0 (some (nI x.time)),.r 0 (some (nI x.no))] 0 0,.wr 5 [] 0,.wr 6 (hnO 1 3) 0] [(6,[])] [101] (fun nu1=>[zP 7 (nu1 0)]) o0 (fun nu1=>[(nu1 0,.cells #[nI x.place,nI x.time,nI x.no] 177 (0,0))]) (fun nu1=>(oC hi0 (oC hlt2 (oC hrd1_0 (oC hrd1_1 (oC hrd1_2 oN)))))) (fun nu1=>?_)
  refine Zs [zR 0,.rd 1 [.o 1 none] 0 0,zR 2,zR 3,.rd 4 [] 2 0,.rd 5 [.o 1 none] 2 0,.rd 6 [] 2 0,.rd 7 [] 2 0,.rd 8 [] 0 3,zR 9,.rd 10 [] 2 0,.rd 11 [.o 1 none] 2 0,.rd 12 [] 2 0,.rd 13 [] 0 3,zR 14,.rd 15 [] 2 0,.rd 16 [.o 1 none] 2 0,.rd 17 [] 2 0,.rd 18 [] 0 3,zR 19,.rd 20 [] 2 0,.rd 21 [.o 1 none] 2 0,.rd 22 [] 2 0,.rd 23 [] 0 3,zR 24,.rd 25 [] 2 0,.rd 26 [.o 1 none] 2 0,.rd 27 [] 2 0,.rd 28 [] 0 3] [] [zB 137 (decide (x.place<0)||decide (x.place≥places)||decide (x.time<1)||decide (x.time>1099511627776)||decide (x.no<0)||decide (x.no≥12))] ?_
  refine cC (t:=decide (x.place<0)||decide (x.place≥places)||decide (x.time<1)||decide (x.time>1099511627776)||decide (x.no<0)||decide (x.no≥12)) (fun hbad=>?_) (fun hbad=>?_)
  ·have e2:badDots places o.dots=true:=List.any_eq_true.2 ⟨x,List.mem_of_getElem? hx,by
    simp[dotOk]at hbad ⊢
    omega⟩
   refine Zs [zR 0] [137] [zI 4 2] ?_
   refine Yr [[]] (nI 2) fun a w s=>?_
   rw[e2]
   exact s.ret (by simp) [] [] rfl rfl
  ·have e2:dotOk places x=true:=by
    simp[dotOk]at hbad ⊢
    omega
   refine J_skip (J_eb ?_)
   refine Zp [zR 0,.rd 1 [] 0 1,zR 2] [137] [zI 6 (i+1)] (oC (show IntKind.i64.wrap (i+1)=i+1 from wrap_i64 (by omega) (by omega)) oN) ?_
   refine J_backx (i+1) [1,2,4,6] [0] [] [0] ?_ ?_ (by kernel_rfl) rfl rfl rfl
   ·refine⟨by omega,by omega,fun j hj t ht=>?_⟩
    by_cases hji:j=i.toNat
    ·subst hji
     rw[hx]at ht
     cases ht
     exact e2
    ·exact hno j (by omega) t ht
   ·omega
 ·have e2:badDots places o.dots=false:=by
   unfold badDots
   rw[List.any_eq_false]
   intro t ht
   obtain⟨j,hj⟩:=List.getElem?_of_mem ht
   have hjl:=(List.getElem?_eq_some_iff.1 hj).1
   simp[hno j (by simp at hlt;omega) t hj]
  refine J_exit rfl ?_
  refine Zs [zR 0] [101,1,2,6] [] ?_
  refine Yr [[]] (nI 0) fun a w s=>?_
  rw[e2]
  exact s.ret (by simp) [] [] rfl rfl
set_option maxHeartbeats 4000000 in
theorem opError {w:World} {S:Nat→Prop} {o:OpT} {a:Option Addr} {n c:Nat} {places:Int} (h:Rep w S (.slice a n c) (.sl 3 (o.dots.map eDot))):Calls Tryz.prog 27 #[opA o (.slice a n c),.int .i64 places] w fun e w'=>Ret [] w S w' e (.int .i64 (opErr o places)) [] []:=by
 have e1:=h.slen
 rw[List.length_map]at e1
 subst e1
 refine epG Tryz.func27 bd27 (args:=[opA o (.slice a o.dots.length c),.int .i64 places]) (G:=[(_,.sl 3 (o.dots.map eDot))]) (by kernel_rfl) (.cons h (.nil _ _)) ?_
 refine Zv [.wr 0 [] 0,zR 1] [] [0] (fun nu1=>[zP 2 (nu1 0),zI 4 0]) o0 (fun nu1=>[(nu1 0,.cells #[nI o.no,.string o.key,nI o.kind,.string o.text,nI o.n,.bool o.remove,.slice a o.dots.length c] 55 (0,0))]) (fun nu1=>?_)
 refine J_seq ?_
 refine Zs (Rds 0 3++[.rd 3 [] 2 0,.rd 4 [] 2 0,.rd 5 [] 0 3,zR 6,.rd 7 [] 2 0,.rd 8 [.o 0 none] 2 0,.rd 9 [] 2 0,.rd 10 [] 0 3,zR 11,.rd 12 [] 2 0,.rd 13 [.o 0 none] 2 0,.rd 14 [] 2 0,.rd 15 [] 0 3]) [] [zB 23 (decide (places<1)||decide (places>6)||decide (o.no<0)||decide (o.no≥12))] ?_
 refine cC (t:=decide (places<1)||decide (places>6)||decide (o.no<0)||decide (o.no≥12)) (fun hb=>?_) (fun hb=>?_)
 ·have e:opErr o places=2:=by rw[opErr,if_pos (by simp at hb;omega)]
  refine Zs [zR 0] [23] [zI 4 2] ?_
  refine Yr [[]] (nI 2) fun a w s=>?_
  rw[e]
  exact s.ret (by simp) [] [] rfl rfl
 have hb2:¬(places<1∨6<places∨o.no<0∨12≤o.no):=by simp at hb;omega
 refine J_skip ?_
 refine jS [(0,true),(1,true),(2,false),(3,true)] [] ?_
 refine Ya [zR 0,.rd 1 [.o 0 none] 0 0] [23] [zV 25 (.string o.key)] ?_
 refine Yc 21 #[.string o.key] (some 26) fun w S hG=>?_
 refine(isName (w:=w) (S:=S) (s0:=o.key)).mono ?_
 rintro e1 w1 hR
 refine⟨_,_,_,hR,?_⟩
 cases hname:nameOk o.key with
 | false=>
  have e:opErr o places=4:=by rw[opErr,if_neg hb2,if_pos hname]
  try simp only[aQ]
  refine Ya [zR 3] [26,25] [zB 5 false] ?_
  refine JR_end (J_seq ?_)
  refine Zs [zR 0,zR 1] [5] [zB 28 true] ?_
  refine cTt ?_
  refine Zs [zR 0] [28] [zI 4 4] ?_
  refine Yr [[]] (nI 4) fun a w s=>?_
  rw[e]
  exact s.ret (by simp) [] [] rfl rfl
 | true=>
  by_cases h1:o.kind=1
  ·try simp only[aQ]
   refine Ya [zR 3] [26,25] [zB 5 true] ?_
   refine JR_end (J_seq ?_)
   refine Zs [zR 0,zR 1] [5] [zB 28 false] ?_
   refine cF ?_
   refine J_skip (J_seq ?_)
   refine Zs [zR 0,.rd 1 [.o 0 none] 0 0] [28] [zI 30 o.kind] ?_
   refine J_block ?_
   refine Zt [.rd 0 [] 0 6,zR 1] [] [zB 31 true] (oC (show(o.kind==(1:Int))=true from by simp;omega) oN) ?_
   refine cTt ?_
   refine Zs [zR 0,.rd 1 [.o 0 none] 0 0,zR 2,zR 3,.rd 4 [] 2 0,.rd 5 [.o 0 none] 2 0,.rd 6 [] 0 3,zR 7,.rd 8 [] 2 0,.rd 9 [.o 0 none] 2 0,.rd 10 [] 2 0,.rd 11 [] 2 0,.rd 12 [] 0 3] [31,30] [zB 45 (o.n != 0||o.remove||decide ((↑o.dots.length:Int)>0))] ?_
   refine cC (t:=o.n != 0||o.remove||decide ((↑o.dots.length:Int)>0)) (fun hsh=>?_) (fun hsh=>?_)
   ·have e:opErr o places=3:=opShape hb2 hname (.inl h1) (by
     rw[shapeOk,if_pos h1]
     have:=(nsh (o.n==0) o.remove o.dots.length).symm.trans hsh
     exact not_t this)
    refine Zs [zR 0] [45] [zI 4 3] ?_
    refine Yr [[]] (nI 3) fun a w s=>?_
    rw[e]
    exact s.ret (by simp) [] [] rfl rfl
   ·have e:=opRest hb2 hname (.inl h1) (by
     rw[shapeOk,if_pos h1]
     have:=(nsh (o.n==0) o.remove o.dots.length).symm.trans hsh
     exact not_f this)
    refine J_skip (J_eb (J_seq (J_seq ?_)))
    rw[e]
    exact J_cut [1,2,4] [0] [] [0] (by kernel_rfl) (by kernel_rfl) (by kernel_rfl) (by kernel_rfl) (opTail (nb:=nu1 0) (a:=a) (c:=c))
  ·by_cases h2:o.kind=2
   ·try simp only[aQ]
    refine Ya [zR 3] [26,25] [zB 5 true] ?_
    refine JR_end (J_seq ?_)
    refine Zs [zR 0,zR 1] [5] [zB 28 false] ?_
    refine cF ?_
    refine J_skip (J_seq ?_)
    refine Zs [zR 0,.rd 1 [.o 0 none] 0 0] [28] [zI 30 o.kind] ?_
    refine J_block ?_
    refine Zt [.rd 0 [] 0 7,zR 1] [] [zB 31 false] (oC (show(o.kind==(1:Int))=false from by simp;omega) oN) ?_
    refine cF ?_
    refine Zt [.rd 0 [] 0 6,zR 1] [31] [zB 46 true] (oC (show(o.kind==(2:Int))=true from by simp;omega) oN) ?_
    refine cTt ?_
    refine Zs [zR 0,.rd 1 [.o 0 none] 0 0,zR 2,zR 3,.rd 4 [] 2 0,.rd 5 [.o 0 none] 2 0,.rd 6 [] 0 3,zR 7,.rd 8 [] 2 0,.rd 9 [.o 0 none] 2 0,.rd 10 [] 2 0,.rd 11 [] 2 0,.rd 12 [] 0 3] [46,30] [zB 60 (!o.text.toList==(ByteArray.mk #[]).toList||o.remove||decide ((↑o.dots.length:Int)>0))] ?_
    refine cC (t:=!o.text.toList==(ByteArray.mk #[]).toList||o.remove||decide ((↑o.dots.length:Int)>0)) (fun hsh=>?_) (fun hsh=>?_)
    ·have e:opErr o places=3:=opShape hb2 hname (.inr (.inl h2)) (by
      rw[shapeOk,if_neg h1,if_pos h2]
      have:=(nsh (o.text.toList==(ByteArray.mk #[]).toList) o.remove o.dots.length).symm.trans hsh
      exact not_t this)
     refine Zs [zR 0] [60] [zI 4 3] ?_
     refine Yr [[]] (nI 3) fun a w s=>?_
     rw[e]
     exact s.ret (by simp) [] [] rfl rfl
    ·have e:=opRest hb2 hname (.inr (.inl h2)) (by
      rw[shapeOk,if_neg h1,if_pos h2]
      have:=(nsh (o.text.toList==(ByteArray.mk #[]).toList) o.remove o.dots.length).symm.trans hsh
      exact not_f this)
     refine J_skip (J_eb (J_seq (J_seq ?_)))
     rw[e]
     exact J_cut [1,2,4] [0] [] [0] (by kernel_rfl) (by kernel_rfl) (by kernel_rfl) (by kernel_rfl) (opTail (nb:=nu1 0) (a:=a) (c:=c))
   ·by_cases h3:o.kind=3
    ·by_cases h4:o.n=0
     ·try simp only[aQ]
      refine Ya [zR 3] [26,25] [zB 5 true] ?_
      refine JR_end (J_seq ?_)
      refine Zs [zR 0,zR 1] [5] [zB 28 false] ?_
      refine cF ?_
      refine J_skip (J_seq ?_)
      refine Zs [zR 0,.rd 1 [.o 0 none] 0 0] [28] [zI 30 o.kind] ?_
      refine J_block ?_
      refine Zt [.rd 0 [] 0 7,zR 1] [] [zB 31 false] (oC (show(o.kind==(1:Int))=false from by simp;omega) oN) ?_
      refine cF ?_
      refine Zt [.rd 0 [] 0 7,zR 1] [31] [zB 46 false] (oC (show(o.kind==(2:Int))=false from by simp;omega) oN) ?_
      refine cF ?_
      refine Zt [.rd 0 [] 0 6,zR 1] [46,30] [zB 61 true] (oC (show(o.kind==(3:Int))=true from by simp;omega) oN) ?_
      refine cTt ?_
      refine Zt [zR 0,.rd 1 [.o 0 none] 0 0,.rd 2 [] 0 7,zR 3,zR 4,.rd 5 [.o 0 none] 0 0,zR 6,zR 7,.rd 8 [] 2 0,.rd 9 [.o 0 none] 2 0,.rd 10 [] 2 0,.rd 11 [] 2 0,.rd 12 [] 0 3,zR 13] [61] [zB 76 (!o.remove&&decide ((↑o.dots.length:Int)>0))] (oC (show(o.n != (0:Int))=false from by simp;omega) oN) ?_
      refine cC (t:=!o.remove&&decide ((↑o.dots.length:Int)>0)) (fun hsh=>?_) (fun hsh=>?_)
      ·have e:opErr o places=3:=opShape hb2 hname (.inr (.inr h3)) (by
        rw[shapeOk,if_neg h1,if_neg h2,show(o.n==0)=true by simpa using h4,Bool.true_and]
        have:=(nsh3 o.remove o.dots.length).symm.trans hsh
        exact not_t this)
       refine Zs [zR 0] [76] [zI 4 3] ?_
       refine Yr [[]] (nI 3) fun a w s=>?_
       rw[e]
       exact s.ret (by simp) [] [] rfl rfl
      ·have e:=opRest hb2 hname (.inr (.inr h3)) (by
        rw[shapeOk,if_neg h1,if_neg h2,show(o.n==0)=true by simpa using h4,Bool.true_and]
        have:=(nsh3 o.remove o.dots.length).symm.trans hsh
        exact not_f this)
       refine J_skip (J_eb (J_seq (J_seq ?_)))
       rw[e]
       exact J_cut [1,2,4] [0] [] [0] (by kernel_rfl) (by kernel_rfl) (by kernel_rfl) (by kernel_rfl) (opTail (nb:=nu1 0) (a:=a) (c:=c))
     ·have e:opErr o places=3:=opShape hb2 hname (.inr (.inr h3)) (by
       rw[shapeOk,if_neg h1,if_neg h2,show(o.n==0)=false by simpa using h4,Bool.false_and])
      try simp only[aQ]
      refine Ya [zR 3] [26,25] [zB 5 true] ?_
      refine JR_end (J_seq ?_)
      refine Zs [zR 0,zR 1] [5] [zB 28 false] ?_
      refine cF ?_
      refine J_skip (J_seq ?_)
      refine Zs [zR 0,.rd 1 [.o 0 none] 0 0] [28] [zI 30 o.kind] ?_
      refine J_block ?_
      refine Zt [.rd 0 [] 0 7,zR 1] [] [zB 31 false] (oC (show(o.kind==(1:Int))=false from by simp;omega) oN) ?_
      refine cF ?_
      refine Zt [.rd 0 [] 0 7,zR 1] [31] [zB 46 false] (oC (show(o.kind==(2:Int))=false from by simp;omega) oN) ?_
      refine cF ?_
      refine Zt [.rd 0 [] 0 6,zR 1] [46,30] [zB 61 true] (oC (show(o.kind==(3:Int))=true from by simp;omega) oN) ?_
      refine cTt ?_
      refine Zt [zR 0,.rd 1 [.o 0 none] 0 0,.rd 2 [] 0 6,zR 3,.rd 4 [] 1 0,.rd 5 [] 1 0,.rd 6 [] 1 0,.rd 7 [] 1 0,.rd 8 [] 1 0,.rd 9 [] 1 0,.rd 10 [] 1 0,.rd 11 [] 1 0,.rd 12 [] 1 0,zR 13] [61] [zB 76 true] (oC (show(o.n != (0:Int))=true from by simp;omega) oN) ?_
      refine cTt ?_
      refine Zs [zR 0] [76] [zI 4 3] ?_
      refine Yr [[]] (nI 3) fun a w s=>?_
      rw[e]
      exact s.ret (by simp) [] [] rfl rfl
    ·have e:opErr o places=12:=by rw[opErr,if_neg hb2,if_neg (by simp[hname]),if_pos ⟨h1,h2,h3⟩]
     try simp only[aQ]
     refine Ya [zR 3] [26,25] [zB 5 true] ?_
     refine JR_end (J_seq ?_)
     refine Zs [zR 0,zR 1] [5] [zB 28 false] ?_
     refine cF ?_
     refine J_skip (J_seq ?_)
     refine Zs [zR 0,.rd 1 [.o 0 none] 0 0] [28] [zI 30 o.kind] ?_
     refine J_block ?_
     refine Zt [.rd 0 [] 0 7,zR 1] [] [zB 31 false] (oC (show(o.kind==(1:Int))=false from by simp;omega) oN) ?_
     refine cF ?_
     refine Zt [.rd 0 [] 0 7,zR 1] [31] [zB 46 false] (oC (show(o.kind==(2:Int))=false from by simp;omega) oN) ?_
     refine cF ?_
     refine Zt [.rd 0 [] 0 7,zR 1] [46,30] [zB 61 false] (oC (show(o.kind==(3:Int))=false from by simp;omega) oN) ?_
     refine cF ?_
     refine Zs [zR 0] [61] [zI 4 12] ?_
     refine Yr [[]] (nI 12) fun a w s=>?_
     rw[e]
     exact s.ret (by simp) [] [] rfl rfl
end Go.Proofs.YtmkapocibaojdaaGreatDoor
namespace Go.Proofs.YtmkapocibaojdaaGreatDoor
open Go Go.Sx
set_option maxHeartbeats 4000000 in
theorem obj_ptr {w:World} {S:Nat→Prop} {b:Nat} {x:Value} {ty:TypeId} {fz:Nat×Nat} (h:Rep w S (.pointer (some ⟨b,0,none⟩)) (.obj (.cells #[x] ty fz))) (hx:x.oneCell'=true):Rep w S (.pointer (some ⟨b,0,none⟩)) (.ptr [.v x]):=by
 cases h with
 | obj hb hS=>
  refine .ptr (fun _=>x) hb hS (fun j hj=>?_) (fun j d hj=>?_)
  ·obtain rfl:j=0:=by simpa using hj
   rfl
  ·match j,hj with
   | 0,hj=>
    simp only[List.getElem?_cons_zero,Option.some.injEq]at hj
    subst hj
    exact .v hx
   | j+1,hj=>simp at hj
set_option maxHeartbeats 4000000 in
theorem check68 {w:World} {S:Nat→Prop} {d:DotT} {places:Int} {b:Nat} (h:Rep w S (.pointer (some ⟨b,0,none⟩)) (.ptr [.v (.int .i64 places)])):Calls Tryz.prog 186 #[dotA d,.pointer (some ⟨b,0,none⟩)] w fun e w'=>Ret [] w S w' e (.bool (!dotOk places d)) [] []:=by
 refine epG Tryz.func186 bd186 (args:=[dotA d,.pointer (some ⟨b,0,none⟩)]) (G:=[(_,.ptr [.v (.int .i64 places)])]) (by kernel_rfl) (.cons h (.nil _ _)) ?_
 refine J_glob 0 rfl (fun csg1 tyg1 fzg1 hglob1=>?_)
 refine Zv [.wr 0 [] 0,zR 1] [] [0] (fun nu1=>[zP 2 (nu1 0),zB 3 false]) o0 (fun nu1=>[(nu1 0,.cells #[nI d.place,nI d.time,nI d.no] 177 (0,0))]) (fun nu1=>?_)
 refine jS [(0,true),(1,true),(2,false),(3,true),(4,true)] [] ?_
 refine Yp [.rd 0 (hnO 0 3) 0 0,.rd 1 [.r 0 (some (nI places))] 0 0] [2,1] [zV 4 (.agg #[nI d.place,nI d.time,nI d.no]),zI 5 places] (oC hglob1 oN) ?_
 refine Yc 187 #[.agg #[nI d.place,nI d.time,nI d.no],nI places] (some 6) fun w S hG=>?_
 refine(vDot (w:=w) (S:=S)).mono ?_
 rintro e1 w1 hR
 refine⟨_,_,_,hR,?_⟩
 try simp only[aQ]
 refine Ya [zR 3,zR 4] [6,4,5] [zB 3 (!dotOk places d)] ?_
 refine JR_end ?_
 refine Yr [[]] (.bool (!dotOk places d)) fun a w s=>?_
 exact s.ret (by simp) [] [] rfl rfl
set_option maxHeartbeats 4000000 in
theorem indexBadD {w:World} {S:Nat→Prop} {a:Option Addr} {n c:Nat} {l:List DotT} {places:Int} {b:Nat} (h:Rep w S (.slice a n c) (.sl 3 (l.map eDot))) (hl:l.length≤1000000) (hp:Rep w S (.pointer (some ⟨b,0,none⟩)) (.ptr [.v (.int .i64 places)])) :
  Calls Tryz.prog 215 #[.slice a n c,.func (.func 186) #[] #[.pointer (some ⟨b,0,none⟩)]] w fun e w'=>∃r,Ret [] w S w' e (.int .i64 r) [] []∧decide (0≤r)=badDots places l:=by
 have e1:=h.slen
 rw[List.length_map]at e1
 subst e1
 refine epG Tryz.func215 bd215 (args:=[.slice a l.length c,.func (.func 186) #[] #[.pointer (some ⟨b,0,none⟩)]]) (G:=[(_,.sl 3 (l.map eDot)),(_,.ptr [.v (.int .i64 places)])]) (by kernel_rfl) (.cons h (.cons hp (.nil _ _))) ?_
 refine Zs [zR 0] [] [zI 4 0] ?_
 refine J_seq ?_
 refine Zs (Rds 0 3) [] [zI 7 (↑l.length:Int),zI 8 0] ?_
 refine J_block ?_
 refine J_loopx (fun i:Int=>[zS 0 a l.length c,zV 1 (.func (.func 186) #[] #[.pointer (sA b 0)]),zI 4 0,zI 7 (↑l.length:Int),zI 8 i]) (fun i:Int=>[]) (fun i:Int=>[]) (fun i:Int=>[(.slice a l.length c,(D.sl 3 (List.map eDot l))),(.pointer (sA b 0),(D.ptr [D.v (nI places)]))]) (fun i:Int=>(l.length - i).toNat) (fun i:Int=>(0≤i∧i≤l.length∧∀j:Nat,j<i.toNat→∀d,l[j]?=some d→dotOk places d=true)) 0 [0,1,4,7,8] [] [] [0,1] ?_ (by kernel_rfl) rfl rfl rfl ?_
 ·exact⟨by simp,by omega,by simp⟩
 rintro i ⟨hi0,hi,hno⟩
 refine Zs [zR 0] [] [zB 9 (decide (i<(↑l.length:Int)))] ?_
 refine J_seq ?_
 refine cC (t:=decide (i<(↑l.length:Int))) (fun hlt=>?_) (fun hlt=>?_)
 ·have hlt2:i<l.length:=by simpa using hlt
  obtain⟨x,hx⟩:∃x,l[i.toNat]?=some x:=⟨_,List.getElem?_eq_getElem (by omega)⟩
  refine J_read0 0 rfl i.toNat (map_at hx) (by kernel_rfl) (fun b1 off1 cs1 ty1 fz1 ha1 hrd1=>?_)
  cases ha1
  have hrd1_0:=rd0 (hrd1 0 _ rfl)
  have hrd1_1:=hrd1 1 _ rfl
  have hrd1_2:=hrd1 2 _ rfl
  try simp only[aQ]
  refine J_skip (J_seq (J_block ?_))
  refine Zs [zR 0,zR 1] [9] [zI 5 i] ?_
  refine jS [(0,true),(1,true),(2,true),(3,true),(4,true),(5,false)] [] ?_
  refine Yp (Rds 0 3++[.rd 3 [] 0 2,.rd 4 [.r 0 (some (nI x.place)),.r 0 (some (nI x.time)),.r 0 (some (nI x.no))] 0 0]) [] [zV 11 (.func (.func 186) #[] #[.pointer (sA b 0)]),zV 15 (.agg #[nI x.place,nI x.time,nI x.no])] (oC hi0 (oC hlt2 (oC hrd1_0 (oC hrd1_1 (oC hrd1_2 oN))))) ?_
  refine Yc 186 #[.agg #[nI x.place,nI x.time,nI x.no],.pointer (sA b 0)] (some 16) fun w S hG=>?_
  refine(check68 (d:=x) (hG.at 1 rfl)).mono ?_
  rintro e w2 hR
  refine⟨_,_,_,hR,?_⟩
  try simp only[aQ]
  refine JR_end ?_
  refine cC (t:=!dotOk places x) (fun hb=>?_) (fun hb=>?_)
  ·refine J_seq ?_
   refine Za [zR 0,zR 1] [16] [zI 4 i] ?_
   refine Yr [[]] (nI i) fun a w s=>?_
   refine⟨_,s.ret (by simp) [] [] rfl rfl,?_⟩
   rw[show badDots places l=true from List.any_eq_true.2 ⟨x,List.mem_of_getElem? hx,hb⟩]
   simpa using hi0
  ·refine J_skip ?_
   refine J_eb ?_
   refine Zp [.rd 0 [] 0 1,zR 1] [16] [zI 8 (i+1)] (oC (show IntKind.i64.wrap (i+1)=i+1 from wrap_i64 (by omega) (by omega)) oN) ?_
   refine J_backx (i+1) [0,1,4,7,8] [] [] [0,1] ?_ ?_ (by kernel_rfl) rfl rfl rfl
   ·refine⟨by omega,by omega,fun j hj t ht=>?_⟩
    by_cases hji:j=i.toNat
    ·subst hji
     rw[hx]at ht
     cases ht
     exact not_f hb
    ·exact hno j (by omega) t ht
   ·omega
 ·refine J_exit rfl ?_
  refine Zs [zR 0] [9,0,1,7,8] [zI 4 (-1)] ?_
  refine Yr [[]] (nI (-1)) fun a w s=>?_
  refine⟨_,s.ret (by simp) [] [] rfl rfl,?_⟩
  have e:badDots places l=false:=by
   unfold badDots
   rw[List.any_eq_false]
   intro t ht
   obtain⟨j,hj⟩:=List.getElem?_of_mem ht
   have hjl:=(List.getElem?_eq_some_iff.1 hj).1
   simp[hno j (by simp at hlt;omega) t hj]
  rw[e]
  decide
set_option maxHeartbeats 4000000 in
theorem containsBadD {w:World} {S:Nat→Prop} {a:Option Addr} {n c:Nat} {l:List DotT} {places:Int} {b:Nat} (h:Rep w S (.slice a n c) (.sl 3 (l.map eDot))) (hl:l.length≤1000000) (hp:Rep w S (.pointer (some ⟨b,0,none⟩)) (.ptr [.v (.int .i64 places)])) :
  Calls Tryz.prog 185 #[.slice a n c,.func (.func 186) #[] #[.pointer (some ⟨b,0,none⟩)]] w fun e w'=>Ret [] w S w' e (.bool (badDots places l)) [] []:=by
 refine epG Tryz.func185 bd185 (args:=[.slice a n c,.func (.func 186) #[] #[.pointer (some ⟨b,0,none⟩)]]) (G:=[(_,.sl 3 (l.map eDot)),(_,.ptr [.v (.int .i64 places)])]) (by kernel_rfl) (.cons h (.cons hp (.nil _ _))) ?_
 refine Zs [zR 0] [] [zB 4 false] ?_
 refine jS [(0,true),(1,true),(2,false),(3,true),(4,true)] [] ?_
 refine Ya [zR 0,zR 1] [0,1] [zS 5 a n c,zV 6 (.func (.func 186) #[] #[.pointer (sA b 0)])] ?_
 refine Yc 215 #[.slice a n c,.func (.func 186) #[] #[.pointer (sA b 0)]] (some 7) fun w S hG=>?_
 refine(indexBadD (hG.at 0 rfl) hl (hG.at 1 rfl)).mono ?_
 rintro e w2 ⟨r,hR,hr⟩
 refine⟨_,_,_,hR,?_⟩
 try simp only[aQ]
 refine Ya [zR 3,zR 4] [7,5,6] [zB 4 (decide (r≥0))] ?_
 refine JR_end ?_
 refine Yr [[]] (.bool (decide (r≥0))) fun a w s=>?_
 rw[←hr]
 exact s.ret (by simp) [] [] rfl rfl
set_option maxHeartbeats 4000000 in
theorem vCheckOp {w:World} {S:Nat→Prop} {er:Nat→Addr} {eb:Nat→Array Value×TypeId} {o:OpT} {a:Option Addr} {n c:Nat} {places:Int} (hC:Rep w S .nilIface (dC er eb)) (h:Rep w S (.slice a n c) (.sl 3 (o.dots.map eDot))) :
  Calls Tryz.prog 144 #[opA o (.slice a n c),.int .i64 places] w fun e w'=>∃v,Ret [] w S w' e v [] []∧ErrIs 390 er (opErr o places) v:=by
 have e1:=h.slen
 rw[List.length_map]at e1
 subst e1
 refine epG Tryz.func144 bd144 (args:=[opA o (.slice a o.dots.length c),.int .i64 places]) (G:=[(_,dC er eb),(_,.sl 3 (o.dots.map eDot))]) (by kernel_rfl) (.cons hC (.cons h (.nil _ _))) ?_
 refine J_stp (stp_all 0 [1,2,3,11] rfl rfl) ?_
 refine J_glob 2 rfl (fun csg1 tyg1 fzg1 hglob1=>?_)
 refine J_glob 3 rfl (fun csg2 tyg2 fzg2 hglob2=>?_)
 refine J_glob 4 rfl (fun csg3 tyg3 fzg3 hglob3=>?_)
 refine J_glob 5 rfl (fun csg4 tyg4 fzg4 hglob4=>?_)
 try simp only[aQ]
 refine Zv [.wr 0 [] 0,.wr 1 [] 0,zR 2] [] [0,1] (fun nu1=>[zP 2 (nu1 0),zP 3 (nu1 1),zV 4 .nilIface]) o0 (fun nu1=>[(nu1 0,.cells #[nI o.no,.string o.key,nI o.kind,.string o.text,nI o.n,.bool o.remove,.slice a o.dots.length c] 55 (0,0)),(nu1 1,.cells #[nI places] 3 (0,0))]) (fun nu1=>?_)
 refine J_seq (J_block ?_)
 refine Zs [.rd 0 [.o 1 none] 0 0,zR 1,zR 2,.rd 3 [.o 1 none] 2 0,.rd 4 [] 2 0,.rd 5 [] 0 3,zR 6,.rd 7 [] 2 0,.rd 8 [.o 0 none] 2 0,.rd 9 [] 2 0,.rd 10 [] 0 3,zR 11,.rd 12 [] 2 0,.rd 13 [.o 0 none] 2 0,.rd 14 [] 2 0,.rd 15 [] 0 3,zR 16] [] [zB 5 (decide (places<1)||decide (places>6)||decide (o.no<0)||decide (o.no≥12))] ?_
 refine cC (t:=decide (places<1)||decide (places>6)||decide (o.no<0)||decide (o.no≥12)) (fun hb=>?_) (fun hb=>?_)
 ·have e:opErr o places=2:=by rw[opErr,if_pos (by simp at hb;omega)]
  refine Zt [.rd 0 [.r 0 (some (.iface 390 (.pointer (some (er 2)))))] 0 0,zR 1] [5,2,3] [zV 4 (.iface 390 (.pointer (some (er 2))))] (oC hglob1 oN) ?_
  refine Yr [[]] (.iface 390 (.pointer (some (er 2)))) fun a w s=>?_
  rw[e]
  exact⟨_,s.ret (by simp) [] [] rfl rfl,.inr ⟨by decide,rfl⟩⟩
 have hb2:¬(places<1∨6<places∨o.no<0∨12≤o.no):=by simp at hb;omega
 refine jS [(0,true),(1,true),(2,false),(3,true),(4,true)] [] ?_
 refine Ya [zR 0,.rd 1 [.o 0 none] 0 0] [5] [zV 25 (.string o.key)] ?_
 refine Yc 154 #[.string o.key] (some 26) fun w S hG=>?_
 refine(vName (w:=w) (S:=S) (s0:=o.key)).mono ?_
 rintro e1 w1 hR
 refine⟨_,_,_,hR,?_⟩
 cases hname:nameOk o.key with
 | false=>
  have e:opErr o places=4:=by rw[opErr,if_neg hb2,if_pos hname]
  try simp only[aQ]
  refine Ya [zR 3,zR 4] [26,25] [zB 23 true] ?_
  refine JR_end ?_
  refine cTt ?_
  refine Zt [.rd 0 [.r 2 (some (.iface 390 (.pointer (some (er 4)))))] 0 0,zR 1] [23,2,3] [zV 4 (.iface 390 (.pointer (some (er 4))))] (oC hglob3 oN) ?_
  refine Yr [[]] (.iface 390 (.pointer (some (er 4)))) fun a w s=>?_
  rw[e]
  exact⟨_,s.ret (by simp) [] [] rfl rfl,.inr ⟨by decide,rfl⟩⟩
 | true=>
  try simp only[aQ]
  refine Ya [zR 3,zR 4] [26,25] [zB 23 false] ?_
  refine JR_end ?_
  refine cF ?_
  refine Zs [zR 0,.rd 1 [.o 0 none] 0 0,zR 2,zR 3,.rd 4 [] 2 0,.rd 5 [.o 0 none] 2 0,.rd 6 [] 2 0,.rd 7 [] 0 3,zR 8,.rd 9 [] 2 0,.rd 10 [.o 0 none] 2 0,.rd 11 [] 2 0,.rd 12 [] 0 3,zR 13] [23] [zB 29 (o.kind != 1&&o.kind != 2&&o.kind != 3)] ?_
  refine cC (t:=o.kind != 1&&o.kind != 2&&o.kind != 3) (fun hk=>?_) (fun hk=>?_)
  ·have e:opErr o places=12:=by rw[opErr,if_neg hb2,if_neg (by simp[hname]),if_pos (by simp at hk;omega)]
   refine Zt [.rd 0 [.r 3 (some (.iface 390 (.pointer (some (er 12)))))] 0 0,zR 1] [29,2,3] [zV 4 (.iface 390 (.pointer (some (er 12))))] (oC hglob4 oN) ?_
   refine Yr [[]] (.iface 390 (.pointer (some (er 12)))) fun a w s=>?_
   rw[e]
   exact⟨_,s.ret (by simp) [] [] rfl rfl,.inr ⟨by decide,rfl⟩⟩
  have hk2:o.kind=1∨o.kind=2∨o.kind=3:=by simp at hk;omega
  refine jS [(0,true),(1,false),(2,true),(3,true)] [] ?_
  refine Ya [.rd 0 (hnO 0 7) 0 0] [29] [zV 45 (.agg #[nI o.no,.string o.key,nI o.kind,.string o.text,nI o.n,.bool o.remove,.slice a o.dots.length c])] ?_
  refine Yc 184 #[.agg #[nI o.no,.string o.key,nI o.kind,.string o.text,nI o.n,.bool o.remove,.slice a o.dots.length c]] (some 46) fun w S hG=>?_
  refine(vShape (o:=o) (hG.at 1 rfl)).mono ?_
  rintro e1 w1 hR
  refine⟨_,_,_,hR,?_⟩
  cases hsh:shapeOk o with
  | false=>
   rw[opShape hb2 hname hk2 hsh]
   try simp only[aQ]
   refine Ya [zR 2,zR 3] [46,45] [zB 44 true] ?_
   refine JR_end ?_
   refine cTt ?_
   refine Zt [.rd 0 [.r 1 (some (.iface 390 (.pointer (some (er 3)))))] 0 0,zR 1] [44,2,3] [zV 4 (.iface 390 (.pointer (some (er 3))))] (oC hglob2 oN) ?_
   refine Yr [[]] (.iface 390 (.pointer (some (er 3)))) fun a w s=>?_
   exact⟨_,s.ret (by simp) [] [] rfl rfl,.inr ⟨by decide,rfl⟩⟩
  | true=>
   rw[opRest hb2 hname hk2 hsh]
   try simp only[aQ]
   refine Ya [zR 2,zR 3] [46,45] [zB 44 false] ?_
   refine JR_end ?_
   refine cF ?_
   refine Zs ([zR 0,.rd 1 [.o 0 none] 0 0]++Rds 2 5++[.rd 5 [] 2 0,.rd 6 [.o 0 none] 2 0,.rd 7 [] 2 0,.rd 8 [] 0 3,zR 9,.rd 10 [] 2 0,.rd 11 [.o 0 none] 2 0,.rd 12 [] 2 0,.rd 13 [] 0 3,zR 14,.rd 15 [] 2 0,.rd 16 [.o 0 none] 2 0,.rd 17 [] 2 0,.rd 18 [] 2 0,.rd 19 [] 0 3,zR 20]) [44] [zB 49 (decide ((↑o.text.size:Int)>60)||decide (o.n < -1099511627776)||decide (o.n>1099511627776)||decide ((↑o.dots.length:Int)>60))] ?_
   refine cC (t:=decide ((↑o.text.size:Int)>60)||decide (o.n < -1099511627776)||decide (o.n>1099511627776)||decide ((↑o.dots.length:Int)>60)) (fun hbig=>?_) (fun hbig=>?_)
   ·rw[if_pos (by simp at hbig;omega)]
    refine Zt [.rd 0 [.r 0 (some (.iface 390 (.pointer (some (er 2)))))] 0 0,zR 1] [49,2,3] [zV 4 (.iface 390 (.pointer (some (er 2))))] (oC hglob1 oN) ?_
    refine Yr [[]] (.iface 390 (.pointer (some (er 2)))) fun a w s=>?_
    exact⟨_,s.ret (by simp) [] [] rfl rfl,.inr ⟨by decide,rfl⟩⟩
   rw[if_neg (by simp at hbig;omega)]
   have hdl:o.dots.length≤1000000:=by simp at hbig;omega
   refine J_seq ?_
   refine J_share 1 rfl ?_
   refine J_stp (stp_fact (v:=.pointer (some ⟨nu1 1,0,none⟩)) (d:=.ptr [.v (.int .i64 places)]) fun w S H=>obj_ptr (H _ (List.mem_of_getElem? (i:=6) rfl)) rfl) ?_
   try simp only[aQ]
   refine jT [(0,true),(1,true),(2,true),(3,false),(4,true)] [] ?_
   refine Ya [zR 0,.rd 1 [.o 0 none] 0 0,zR 2] [49,2,3] [zS 73 a o.dots.length c,zV 74 (.func (.func 186) #[] #[.pointer (sA (nu1 1) 0)])] ?_
   refine Yc 185 #[.slice a o.dots.length c,.func (.func 186) #[] #[.pointer (sA (nu1 1) 0)]] (some 75) fun w S hG=>?_
   refine(containsBadD (hG.at 1 rfl) hdl (hG.at 7 rfl)).mono ?_
   rintro e1 w1 hR
   refine⟨_,_,_,hR,?_⟩
   cases hbd:badDots places o.dots with
   | true=>
    try simp only[aQ]
    refine Ya [zR 4] [75,73,74] [zB 71 true] ?_
    refine JR_end ?_
    refine cTt ?_
    refine Zt [.rd 0 [.r 0 (some (.iface 390 (.pointer (some (er 2)))))] 0 0,zR 1] [71] [zV 4 (.iface 390 (.pointer (some (er 2))))] (oC hglob1 oN) ?_
    refine Yr [[]] (.iface 390 (.pointer (some (er 2)))) fun a w s=>?_
    exact⟨_,s.ret (by simp) [] [] rfl rfl,.inr ⟨by decide,rfl⟩⟩
   | false=>
    try simp only[aQ]
    refine Ya [zR 4] [75,73,74] [zB 71 false] ?_
    refine JR_end ?_
    refine cF ?_
    refine J_skip (J_eb ?_)
    refine Zs [zR 0] [71] [] ?_
    refine Yr [[]] (.nilIface) fun a w s=>?_
    exact⟨_,s.ret (by simp) [] [] rfl rfl,.inl ⟨rfl,rfl⟩⟩
end Go.Proofs.YtmkapocibaojdaaGreatDoor
end
