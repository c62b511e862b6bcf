/- Part 12 of the texts of a claim: Filled Tx19 Tx20 RHas RPut. -/
import Derived.Laws.IdiomRangeMap
import Derived.Test.YtpjkiomccpjboaaGreatDoorTg11
section
namespace Go.Sx
open Go
structure FillS where
 i:Int
 xs:List Int
end Go.Sx
namespace Go.Proofs.YtpjkiomccpjboaaGreatDoor
open Go Go.Sx
def cellI (x:Int):Value:=.int .i64 x
theorem fill_set {xs:List Int} {i:Nat} {t:Int}:(xs.map cellI).toArray.setIfInBounds i (.int .i64 t)=((xs.set i t).map cellI).toArray:=by
 apply Array.toList_inj.1
 simp[List.map_set,cellI]
theorem rowG_cells {G:List (Value×D)}:∀xs:List Int,RowG G (xs.map cellI) (xs.map eI).flatten
 | []=>trivial
 | x::r=>⟨.inl ⟨rfl,rfl⟩,rowG_cells r⟩
set_option maxHeartbeats 4000000 in
theorem fillFin {nn:Nat} {E:Env} {S:Nat→Prop} {w0:World} {a:Act} {w:World} {c0:Nat} {xs:List Int} {v:Value} (s:St nn E [(c0,.cells (xs.map cellI).toArray 3 (0,0))] [] [([],w0)] ⟨newS S [] w0,[],[]⟩ a w) (hv:v=.slice (some ⟨c0,0,none⟩) xs.length xs.length) :
  Ret [] w0 S w (.returned v) v [] [(v,dInts xs)]:=by
 subst hv
 obtain⟨fps,s⟩:=s
 have s1:=s.data (cap:=xs.length) (rows:=xs.map eI) (size:=1) 0 rfl (by decide) (by intro row h;obtain⟨x,_,rfl⟩:=List.mem_map.1 h;rfl) (by simp) (by simpa using rowG_cells xs)
 rw[show(xs.map eI).length=xs.length by simp]at s1
 exact St.ret ⟨_,s1⟩ (by simp) [] [0] rfl rfl
set_option maxHeartbeats 4000000 in
theorem newVFin {nn:Nat} {E:Env} {S:Nat→Prop} {w0:World} {a:Act} {w:World} {c0 c1:Nat} {xs:List Int} {v:Value} (s:St nn E [(c0,.cells (xs.map cellI).toArray 3 (0,0)),(c1,.cells #[.slice (some ⟨c0,0,none⟩) xs.length xs.length,.slice none 0 0] 85 (0,0))] [] [([],w0)] ⟨newS S [] w0,[],[]⟩ a w) (hv:v=.pointer (some ⟨c1,0,none⟩)) :
  Ret [] w0 S w (.returned v) v [cObj c1 (.cells #[.slice (some ⟨c0,0,none⟩) xs.length xs.length,.slice none 0 0] 85 (0,0)),cAcc (.slice none 0 0) 28 3 (([]:List ComT).map eCom)] [(.slice (some ⟨c0,0,none⟩) xs.length xs.length,dInts xs)]:=by
 subst hv
 obtain⟨fps,s⟩:=s
 have s1:=s.data (cap:=xs.length) (rows:=xs.map eI) (size:=1) 0 rfl (by decide) (by intro row h;obtain⟨x,_,rfl⟩:=List.mem_map.1 h;rfl) (by simp) (by simpa using rowG_cells xs)
 rw[show(xs.map eI).length=xs.length by simp]at s1
 have s2:=St.hide ⟨_,s1⟩ 0 rfl
 have s3:=s2.stp (stp_accm eCom 28 3)
 exact s3.ret (by simp) [0,1] [0] rfl rfl
set_option maxHeartbeats 4000000 in
theorem rNewV {w:World} {S:Nat→Prop} {p:Nat} (h1:1≤p) (h6:p≤6) :
  Calls Tryz.prog 35 #[.int .i64 p] w fun e w'=>∃mb ba,Ret [] w S w' e (.pointer (some ⟨mb,0,none⟩)) [cObj mb (.cells #[.slice ba p p,.slice none 0 0] 85 (0,0)),cAcc (.slice none 0 0) 28 3 (([]:List ComT).map eCom)] [(.slice ba p p,dInts (List.replicate p 0))]:=by
 refine epG Tryz.func35 bd35 (args:=[.int .i64 p]) (S:=S) (G:=[]) (by kernel_rfl) (.nil _ _) ?_
 rcases(by omega:p=1∨p=2∨p=3∨p=4∨p=5∨p=6)with rfl|rfl|rfl|rfl|rfl|rfl
 ·refine J_seq ?_
  refine Za [zR 0] [] [zV 2 (.pointer none)] ?_
  refine Zv [zR 0,.wr 1 [] 0,zR 2,.wr 3 [] 0,zR 4] [] [0] (fun nu1=>[zP 2 (nu1 1)]) (fun nu1=>[(nu1 0,.cells #[nI 0] 3 (0,0)),(nu1 1,.cells #[.slice (sA (nu1 0) 0) 1 1,.slice none 0 0] 85 (0,0))]) (fun nu1=>?_)
  refine Yr [[]] (.pointer (sA (nu1 1) 0)) fun a w s=>?_
  exact⟨_,_,newVFin (xs:=List.replicate 1 0) s rfl⟩
 ·refine J_seq ?_
  refine Za [zR 0] [] [zV 2 (.pointer none)] ?_
  refine Zv [zR 0,.wr 1 [] 0,zR 2,.wr 3 [] 0,zR 4] [] [0] (fun nu1=>[zP 2 (nu1 1)]) (fun nu1=>[(nu1 0,.cells #[nI 0,nI 0] 3 (0,0)),(nu1 1,.cells #[.slice (sA (nu1 0) 0) 2 2,.slice none 0 0] 85 (0,0))]) (fun nu1=>?_)
  refine Yr [[]] (.pointer (sA (nu1 1) 0)) fun a w s=>?_
  exact⟨_,_,newVFin (xs:=List.replicate 2 0) s rfl⟩
 ·refine J_seq ?_
  refine Za [zR 0] [] [zV 2 (.pointer none)] ?_
  refine Zv [zR 0,.wr 1 [] 0,zR 2,.wr 3 [] 0,zR 4] [] [0] (fun nu1=>[zP 2 (nu1 1)]) (fun nu1=>[(nu1 0,.cells #[nI 0,nI 0,nI 0] 3 (0,0)),(nu1 1,.cells #[.slice (sA (nu1 0) 0) 3 3,.slice none 0 0] 85 (0,0))]) (fun nu1=>?_)
  refine Yr [[]] (.pointer (sA (nu1 1) 0)) fun a w s=>?_
  exact⟨_,_,newVFin (xs:=List.replicate 3 0) s rfl⟩
 ·refine J_seq ?_
  refine Za [zR 0] [] [zV 2 (.pointer none)] ?_
  refine Zv [zR 0,.wr 1 [] 0,zR 2,.wr 3 [] 0,zR 4] [] [0] (fun nu1=>[zP 2 (nu1 1)]) (fun nu1=>[(nu1 0,.cells #[nI 0,nI 0,nI 0,nI 0] 3 (0,0)),(nu1 1,.cells #[.slice (sA (nu1 0) 0) 4 4,.slice none 0 0] 85 (0,0))]) (fun nu1=>?_)
  refine Yr [[]] (.pointer (sA (nu1 1) 0)) fun a w s=>?_
  exact⟨_,_,newVFin (xs:=List.replicate 4 0) s rfl⟩
 ·refine J_seq ?_
  refine Za [zR 0] [] [zV 2 (.pointer none)] ?_
  refine Zv [zR 0,.wr 1 [] 0,zR 2,.wr 3 [] 0,zR 4] [] [0] (fun nu1=>[zP 2 (nu1 1)]) (fun nu1=>[(nu1 0,.cells #[nI 0,nI 0,nI 0,nI 0,nI 0] 3 (0,0)),(nu1 1,.cells #[.slice (sA (nu1 0) 0) 5 5,.slice none 0 0] 85 (0,0))]) (fun nu1=>?_)
  refine Yr [[]] (.pointer (sA (nu1 1) 0)) fun a w s=>?_
  exact⟨_,_,newVFin (xs:=List.replicate 5 0) s rfl⟩
 ·refine J_seq ?_
  refine Za [zR 0] [] [zV 2 (.pointer none)] ?_
  refine Zv [zR 0,.wr 1 [] 0,zR 2,.wr 3 [] 0,zR 4] [] [0] (fun nu1=>[zP 2 (nu1 1)]) (fun nu1=>[(nu1 0,.cells #[nI 0,nI 0,nI 0,nI 0,nI 0,nI 0] 3 (0,0)),(nu1 1,.cells #[.slice (sA (nu1 0) 0) 6 6,.slice none 0 0] 85 (0,0))]) (fun nu1=>?_)
  refine Yr [[]] (.pointer (sA (nu1 1) 0)) fun a w s=>?_
  exact⟨_,_,newVFin (xs:=List.replicate 6 0) s rfl⟩
set_option maxHeartbeats 4000000 in
theorem fillLoop {w:World} {S:Nat→Prop} {p c0:Nat} {t:Int} {zs:List Int} (hz:zs.length=p) (hp:p≤6) :
  J Tryz.prog Tryz.f47 (retR Tryz.prog Tryz.f47 fun e w'=>∃a xs,xs.length=p∧Ret [] w S w' e (.slice a p p) [] [(.slice a p p,dInts xs)]) Tryz.f47.ntmps [.c (.loop (.seq (.seq (.rg 3 false) (.cond (.tmp 11) .skip (.exit 0))) (.seq (.block 1 (.rg 5 false)) (.rg 4 false)))),.eb 0,.c (.seq (.rg 6 false) .ret)] [(0,.val (.int .i64 (p:Nat))),(1,.val (.int .i64 t)),(4,.val (.slice none 0 0)),(5,.val (.slice (some ⟨c0,0,none⟩) p p)),(6,.val (.int .i64 0))] [(c0,.cells (zs.map cellI).toArray 3 (0,0))] [] [([],w)] ⟨newS S [] w,[],[]⟩:=by
 refine J_loopx (fun y:FillS=>[zI 0 (↑p:Int),zI 1 t,zS 4 none 0 0,zS 5 (sA c0 0) p p,zI 6 y.i]) (fun y:FillS=>[(c0,.cells (y.xs.map cellI).toArray 3 (0,0))]) (fun y:FillS=>[]) (fun y:FillS=>[]) (fun y:FillS=>(p - y.i).toNat) (fun y:FillS=>(0≤y.i∧y.i≤p∧y.xs.length=p)) ⟨0,zs⟩ [0,1,4,5,6] [0] [] [] ?_ (by kernel_rfl) rfl rfl rfl ?_
 ·exact⟨by simp,by simp,hz⟩
 rintro⟨i,xs⟩ ⟨hi0,hi,hxl⟩
 dsimp only at hi0 hi hxl ⊢
 refine J_seq ?_
 refine Zs (Rds 0 3) [] [zB 11 (decide (i<(↑p:Int)))] ?_
 refine cC (t:=decide (i<(↑p:Int))) (fun hlt=>?_) (fun hlt=>?_)
 ·have hlt2:i<p:=by simpa using hlt
  have hsz:(xs.map cellI).toArray.size=p:=by simp[hxl]
  refine J_skip (J_seq (J_block ?_))
  refine Zn (Rds 0 3++[.rd 3 [] 0 2,.wr 4 [.o 0 (some (nI t))] 0]) [(4,[0])] [11] (fun _=>[]) (fun _=>[(c0,.cells ((List.map cellI xs).toArray.setIfInBounds (0+i.toNat*1) (nI t)) 3 (0,0))]) (fun _=>[0≤i,i<(↑p:Int),(nI t).oneCell'=true,(0:Nat)+i.toNat*1<(List.map cellI xs).toArray.size]) (fun _=>⟨hi0,hlt2,?_,by omega,trivial⟩) (fun _=>?_)
  ·rfl
  rw[Nat.zero_add,Nat.mul_one,fill_set]
  refine J_eb ?_
  refine Zp [zR 0,.rd 1 [] 0 1,zR 2] [] [zI 6 (i+1)] [IntKind.i64.wrap (i+1)=i+1] ⟨wrap_i64 (by omega) (by omega),trivial⟩ ?_
  refine J_backx ⟨i+1,xs.set i.toNat t⟩ [0,1,4,5,6] [0] [] [] ?_ ?_ (by kernel_rfl) rfl rfl rfl
  ·exact⟨by simp only;omega,by simp only;omega,by simpa using hxl⟩
  ·simp only
   omega
 ·refine J_exit rfl ?_
  refine Zs [zR 0,zR 1] [11,0,1,5,6] [zS 4 (sA c0 0) p p] ?_
  refine Yr [[]] (.slice (sA c0 0) p p) fun a w s=>?_
  exact⟨_,xs,hxl,fillFin s (by rw[hxl])⟩
set_option maxHeartbeats 4000000 in
theorem filled {w:World} {S:Nat→Prop} {p:Nat} {t:Int} (h1:1≤p) (h6:p≤6) :
  Calls Tryz.prog 47 #[.int .i64 p,.int .i64 t] w fun e w'=>∃a xs,xs.length=p∧Ret [] w S w' e (.slice a p p) [] [(.slice a p p,dInts xs)]:=by
 refine epG Tryz.func47 bd47 (args:=[.int .i64 p,.int .i64 t]) (S:=S) (G:=[]) (by kernel_rfl) (.nil _ _) ?_
 rcases(by omega:p=1∨p=2∨p=3∨p=4∨p=5∨p=6)with rfl|rfl|rfl|rfl|rfl|rfl
 ·refine J_seq ?_
  refine Za [zR 0] [] [zS 4 none 0 0] ?_
  refine Zv [zR 0,.wr 1 [] 0,zR 2] [] [] (fun nu1=>[zS 5 (sA (nu1 0) 0) 1 1]) (fun nu1=>[(nu1 0,.cells #[nI 0] 3 (0,0))]) (fun nu1=>?_)
  refine J_seq ?_
  refine Zs [zR 0] [] [zI 6 0] ?_
  refine J_block ?_
  refine J_cut (E':=[zI 0 (1:Nat),zI 1 t,zS 4 none 0 0,zS 5 (some ⟨nu1 0,0,none⟩) 1 1,zI 6 0]) (h':=[_]) (C':=[]) (G':=[]) [0,1,4,5,6] [0] [] [] (by kernel_rfl) rfl rfl rfl ?_
  exact fillLoop (zs:=List.replicate 1 0) rfl (by decide)
 ·refine J_seq ?_
  refine Za [zR 0] [] [zS 4 none 0 0] ?_
  refine Zv [zR 0,.wr 1 [] 0,zR 2] [] [] (fun nu1=>[zS 5 (sA (nu1 0) 0) 2 2]) (fun nu1=>[(nu1 0,.cells #[nI 0,nI 0] 3 (0,0))]) (fun nu1=>?_)
  refine J_seq ?_
  refine Zs [zR 0] [] [zI 6 0] ?_
  refine J_block ?_
  refine J_cut (E':=[zI 0 (2:Nat),zI 1 t,zS 4 none 0 0,zS 5 (some ⟨nu1 0,0,none⟩) 2 2,zI 6 0]) (h':=[_]) (C':=[]) (G':=[]) [0,1,4,5,6] [0] [] [] (by kernel_rfl) rfl rfl rfl ?_
  exact fillLoop (zs:=List.replicate 2 0) rfl (by decide)
 ·refine J_seq ?_
  refine Za [zR 0] [] [zS 4 none 0 0] ?_
  refine Zv [zR 0,.wr 1 [] 0,zR 2] [] [] (fun nu1=>[zS 5 (sA (nu1 0) 0) 3 3]) (fun nu1=>[(nu1 0,.cells #[nI 0,nI 0,nI 0] 3 (0,0))]) (fun nu1=>?_)
  refine J_seq ?_
  refine Zs [zR 0] [] [zI 6 0] ?_
  refine J_block ?_
  refine J_cut (E':=[zI 0 (3:Nat),zI 1 t,zS 4 none 0 0,zS 5 (some ⟨nu1 0,0,none⟩) 3 3,zI 6 0]) (h':=[_]) (C':=[]) (G':=[]) [0,1,4,5,6] [0] [] [] (by kernel_rfl) rfl rfl rfl ?_
  exact fillLoop (zs:=List.replicate 3 0) rfl (by decide)
 ·refine J_seq ?_
  refine Za [zR 0] [] [zS 4 none 0 0] ?_
  refine Zv [zR 0,.wr 1 [] 0,zR 2] [] [] (fun nu1=>[zS 5 (sA (nu1 0) 0) 4 4]) (fun nu1=>[(nu1 0,.cells #[nI 0,nI 0,nI 0,nI 0] 3 (0,0))]) (fun nu1=>?_)
  refine J_seq ?_
  refine Zs [zR 0] [] [zI 6 0] ?_
  refine J_block ?_
  refine J_cut (E':=[zI 0 (4:Nat),zI 1 t,zS 4 none 0 0,zS 5 (some ⟨nu1 0,0,none⟩) 4 4,zI 6 0]) (h':=[_]) (C':=[]) (G':=[]) [0,1,4,5,6] [0] [] [] (by kernel_rfl) rfl rfl rfl ?_
  exact fillLoop (zs:=List.replicate 4 0) rfl (by decide)
 ·refine J_seq ?_
  refine Za [zR 0] [] [zS 4 none 0 0] ?_
  refine Zv [zR 0,.wr 1 [] 0,zR 2] [] [] (fun nu1=>[zS 5 (sA (nu1 0) 0) 5 5]) (fun nu1=>[(nu1 0,.cells #[nI 0,nI 0,nI 0,nI 0,nI 0] 3 (0,0))]) (fun nu1=>?_)
  refine J_seq ?_
  refine Zs [zR 0] [] [zI 6 0] ?_
  refine J_block ?_
  refine J_cut (E':=[zI 0 (5:Nat),zI 1 t,zS 4 none 0 0,zS 5 (some ⟨nu1 0,0,none⟩) 5 5,zI 6 0]) (h':=[_]) (C':=[]) (G':=[]) [0,1,4,5,6] [0] [] [] (by kernel_rfl) rfl rfl rfl ?_
  exact fillLoop (zs:=List.replicate 5 0) rfl (by decide)
 ·refine J_seq ?_
  refine Za [zR 0] [] [zS 4 none 0 0] ?_
  refine Zv [zR 0,.wr 1 [] 0,zR 2] [] [] (fun nu1=>[zS 5 (sA (nu1 0) 0) 6 6]) (fun nu1=>[(nu1 0,.cells #[nI 0,nI 0,nI 0,nI 0,nI 0,nI 0] 3 (0,0))]) (fun nu1=>?_)
  refine J_seq ?_
  refine Zs [zR 0] [] [zI 6 0] ?_
  refine J_block ?_
  refine J_cut (E':=[zI 0 (6:Nat),zI 1 t,zS 4 none 0 0,zS 5 (some ⟨nu1 0,0,none⟩) 6 6,zI 6 0]) (h':=[_]) (C':=[]) (G':=[]) [0,1,4,5,6] [0] [] [] (by kernel_rfl) rfl rfl rfl ?_
  exact fillLoop (zs:=List.replicate 6 0) rfl (by decide)
end Go.Proofs.YtpjkiomccpjboaaGreatDoor
end
section
namespace Go.Sx
open Go
section fork
variable {P:Program} {ops:Array Oper} {Q:Exit→Act→World→Prop}
theorem yields_det {us us':List (Nat×Obj)} {o:Oper} {v v':Value} {a:Act} {w:World} (h:YieldsIf P ops (Hp us) o v a) (h':YieldsIf P ops (Hp us') o v' a) (hw:Hp us w) (hw':Hp us' w):v=v':=by
 rcases h with ⟨h1,h2⟩|⟨h1,h2⟩ <;> rcases h' with ⟨h3,h4⟩|⟨h3,h4⟩
 ·have:=(h2 w hw).symm.trans (h4 w hw')
  simpa using this
 ·rw[h1]at h3;cases h3
 ·rw[h1]at h3;cases h3
 ·rw[h2,h4]
def planF (ops:Array Oper):Nat→List (Nat×Bool)→List (Nat×Bool)→Array Bool→Bool
 | 0,(i,false)::r1,(j,false)::r2,listed=>Region.ready .any ops listed==[i,j]&&planOk ops r1 (listed.setIfInBounds i true)&&planOk ops r2 (listed.setIfInBounds j true)
 | m+1,(i,true)::r1,(j,true)::r2,listed=>Nat.beq i j&&(Region.ready .any ops listed).contains i&&Region.free .any ops listed i&&planF ops m r1 r2 (listed.setIfInBounds i true)
 | _,_,_,_=>false
theorem unlisted_after {listed:Array Bool} {i k:Nat} (hk:(listed.setIfInBounds i true).getD k true=false):i≠k∧listed.getD k true=false:=by
 have hik:i≠k:=by
  rintro rfl
  rcases Nat.lt_or_ge i listed.size with h'|h'
  ·simp[h']at hk
  ·simp[h']at hk
 rw[getD_set_ne true hik]at hk
 exact⟨hik,hk⟩
theorem step_write (hs:Region.noSelect ops=true) (hQ:∀c a d v w,Q (.panic c) (a.put d v) w→Q (.panic c) a w) {B:Nat} (W0:Nat→Option (List Nat)) {i:Nat} {rest:List (Nat×Bool)} {W:List (Nat×List Nat)} {listed:Array Bool} {a:Act} {w:World}
  (hr:i∈Region.ready .any ops listed) (hp:planOk ops rest (listed.setIfInBounds i true)=true) (hdown:Down .any ops listed) (hW:∀j,listed.getD j true=false→W.lookup j=W0 j) (h:PW P ops Q B true ((i,false)::rest) W a w) :
  wpOp P ops Q i (fun a' w'=>BG B (W0 i) w w'∧wpAnyG P .any ops Q B W0 rest.length (listed.setIfInBounds i true) a' w') a w:=by
 have hun:listed.getD i true=false:=(mem_ready.1 hr).1
 refine wpOp_mono (fun a' w' hh=>⟨?_,wpAnyG_of_plan hs hQ W0 rest (W.filter (·.1 != i)) _ _ _ hp (hdown.list hr) (fun k hk=>?_) hh.2⟩) h
 ·rw[←hW i hun];exact hh.1 rfl
 ·obtain⟨hik,hk2⟩:=unlisted_after hk
  rw[lookup_filter_ne i k (Ne.symm hik)]
  exact hW k hk2
theorem wpAnyG_of_fork (hs:Region.noSelect ops=true) (hQ:∀c a d v w,Q (.panic c) (a.put d v) w→Q (.panic c) a w) {B:Nat} (W0:Nat→Option (List Nat)) :
  ∀(m:Nat) (q1 q2:List (Nat×Bool)) (W:List (Nat×List Nat)) (listed:Array Bool) (a:Act) (w:World),planF ops m q1 q2 listed=true→q2.length=q1.length→Down .any ops listed →
   (∀j,listed.getD j true=false→W.lookup j=W0 j)→PW P ops Q B true q1 W a w→PW P ops Q B true q2 W a w→wpAnyG P .any ops Q B W0 q1.length listed a w
 | 0,(i,false)::r1,(j,false)::r2,W,listed,a,w,hp,hl,hdown,hW,h1,h2=>by
  simp only[planF,Bool.and_eq_true,beq_iff_eq]at hp
  obtain⟨⟨hr,hp1⟩,hp2⟩:=hp
  have hi:i∈Region.ready .any ops listed:=by rw[hr];simp
  have hj:j∈Region.ready .any ops listed:=by rw[hr];simp
  have hl2:r2.length=r1.length:=by simpa using hl
  refine⟨fun h0=>absurd h0 (by rw[hr];simp),fun k hk=>?_⟩
  rw[hr]at hk
  rcases List.mem_cons.1 hk with rfl|hk
  ·exact step_write hs hQ W0 hi hp1 hdown hW h1
  ·obtain rfl:=List.mem_singleton.1 hk
   have:=step_write hs hQ W0 hj hp2 hdown hW h2
   rw[hl2]at this
   exact this
 | m+1,(i,true)::r1,(j,true)::r2,W,listed,a,w,hp,hl,hdown,hW,h1,h2=>by
  simp only[planF,Bool.and_eq_true]at hp
  obtain⟨⟨⟨hij,hr⟩,hf⟩,hp'⟩:=hp
  obtain rfl:=Nat.eq_of_beq_eq_true hij
  obtain⟨o,v,us,ho,hy,hS,hd,hrest⟩:=h1
  obtain⟨o',v',us',ho',hy',hS',_,hrest'⟩:=h2
  rw[ho]at ho'
  cases ho'
  obtain rfl:=yields_det hy hy' hS hS'
  refine wpAnyG_first (us:=us) ho (Region.noSelect_spec hs) (fun c a w=>hQ c a _ v w) r1.length listed a w ?_ hdown (by simpa using hr) hy hS ?_
  ·intro k ok hok hki hun hno
   refine⟨Region.free_spec ho hf k ok hok hki hun hno,fun l hl=>?_⟩
   rw[←hW k hun]at hl
   exact hd rfl _ (mem_of_lookup hl)
  ·exact wpAnyG_of_fork hs hQ W0 m r1 r2 W _ _ _ hp' (by simpa using hl) (hdown.list (by simpa using hr)) (fun k hk=>hW k (unlisted_after hk).2) hrest hrest'
 | 0,[],_,_,_,_,_,hp,_,_,_,_,_=>by simp[planF]at hp
 | 0,(_,true)::_,_,_,_,_,_,hp,_,_,_,_,_=>by simp[planF]at hp
 | 0,(_,false)::_,[],_,_,_,_,hp,_,_,_,_,_=>by simp[planF]at hp
 | 0,(_,false)::_,(_,true)::_,_,_,_,_,hp,_,_,_,_,_=>by simp[planF]at hp
 | _+1,[],_,_,_,_,_,hp,_,_,_,_,_=>by simp[planF]at hp
 | _+1,(_,false)::_,_,_,_,_,_,hp,_,_,_,_,_=>by simp[planF]at hp
 | _+1,(_,true)::_,[],_,_,_,_,hp,_,_,_,_,_=>by simp[planF]at hp
 | _+1,(_,true)::_,(_,false)::_,_,_,_,_,hp,_,_,_,_,_=>by simp[planF]at hp
def forkOk (ops:Array Oper) (m:Nat) (q1 q2:List (Nat×Bool)):Bool:=
 Region.noSelect ops&&Nat.beq q1.length ops.size&&Nat.beq q2.length q1.length&&planF ops m q1 q2 (Array.replicate ops.size false)
theorem wp_region_fork {id:Nat} {a:Act} {w:World} (hm:P.follows .mixedOrders=true) (hQ:∀c a d v w,Q (.panic c) (a.put d v) w→Q (.panic c) a w) (m:Nat) (q1 q2:List (Nat×Bool)) (W:List (Nat×List Nat)) (hok:forkOk ops m q1 q2=true) {B:Nat}
  (h1:PW P ops Q B true q1 W a { w with drawn:=w.drawn+1 }) (h2:PW P ops Q B true q2 W a { w with drawn:=w.drawn+1 }):(Code.region id ops true).wp P Q a w:=by
 simp only[forkOk,Bool.and_eq_true]at hok
 obtain⟨⟨⟨hs,hl1⟩,hl2⟩,hp⟩:=hok
 have hlen:=Nat.eq_of_beq_eq_true hl1
 refine wp_region_any hm (wpAny_of_G (B:=B) (W:=fun j=>W.lookup j) _ _ _ _ ?_)
 rw[←hlen]
 rw[←hlen]at hp
 refine wpAnyG_of_fork hs hQ _ m q1 q2 W _ _ _ hp (Nat.eq_of_beq_eq_true hl2) (fun j o ho hl=>?_) (fun _ _=>rfl) h1 h2
 have hlt:=(Array.getElem?_eq_some_iff.1 ho).1
 rw[hlen]at hl
 simp[hlt]at hl
end fork
section rule
variable {P:Program} {f:Func} {R:Act→World→Prop} {n:Nat} {k:List Itm} {E:Env} {h r:List (Nat×Obj)} {F:List (List Nat×World)} {Y:Ghost}
theorem J_fork (hm:P.follows .mixedOrders=true) {id:Nat} (m:Nat) (q1 q2:List (Nat×Bool)) (Wp:List (Nat×List Nat)) (hok:forkOk (rgOf f id) m q1 q2=true) (hWp:okWp h.length Wp=true)
  (H1:JR P f R n (rgOf f id) h.length true q1 Wp k E h r F Y) (H2:JR P f R n (rgOf f id) h.length true q2 Wp k E h r F Y):J P f R n (.c (.rg id true)::k) E h r F Y:=fun a w ⟨fps,s⟩=>by
 have key:∀{q} (H:JR P f R n (rgOf f id) h.length true q Wp k E h r F Y) w,StF n E h r F Y a w fps→PW P (rgOf f id) (wpK P f R k) w.heap.size true q (idsW fps.flatten h Wp) a w:=fun H w s=>
  H w.heap.size fps.flatten fps a w s (fun b hb=>.inl hb) ⟨fun i _ x hx=>⟨s.own.own.lt (List.mem_of_getElem? hx),fun hm=>s.gh.disj _ hm (List.mem_map.2 ⟨x,List.mem_of_getElem? hx,rfl⟩)⟩,fun x hx=>⟨s.own.ro.lt hx,s.gh.apart x hx⟩,Nat.le_refl _,Nat.le_refl _⟩
   (fun j hj x hx=>by rw[List.getElem?_eq_none hj]at hx;cases hx) hWp
 simp only[wpK,Sk.code]
 exact wp_region_fork hm (fun c a d v w hq=>absurd hq (wpK_panic _ _ _ _)) m q1 q2 _ hok (key H1 _ s.drew) (key H2 _ s.drew)
end rule
end Go.Sx
end
section
namespace Go.Sx
open Go Go.MapKept
def rngOf (n:Nat) (ops:Array Oper) (E:Env) (i:Nat):Option (TypeId×Value×Option Tmp):=
 match ops[i]? with
 | none=>none
 | some o=>if dstOk n o.dst then match o.guard with
  | some _=>none
  | none=>match o.op with
   | .range t x=>match opsOk E none [x]with
    | some []=>some (t,rho E x,o.dst)
    | _=>none
   | _=>none
  else none
def nxtOf (n:Nat) (ops:Array Oper) (E:Env) (i:Nat):Option (Value×Bool×Option Tmp):=
 match ops[i]? with
 | none=>none
 | some o=>if dstOk n o.dst then match o.guard with
  | some _=>none
  | none=>match o.op with
   | .next x b=>match opsOk E none [x]with
    | some []=>some (rho E x,b,o.dst)
    | _=>none
   | _=>none
  else none
def entOf (n:Nat) (ops:Array Oper) (E:Env) (i:Nat):Option (Value×Option Tmp):=
 match ops[i]? with
 | none=>none
 | some o=>if dstOk n o.dst then match o.guard with
  | some _=>none
  | none=>match o.op with
   | .entry x=>match opsOk E none [x]with
    | some []=>some (rho E x,o.dst)
    | _=>none
   | _=>none
  else none
section run
variable {P:Program}
theorem run_range_at {w:World} {t k e:TypeId} {mb:Nat} {es:Array MapEntry} {clock:Nat} (ht:P.underlying t=some (.map k e)) (hb:w.heap[mb]?=some (.map es clock)) :
  (Instr.range t (.map (some mb))).run P w=.ok (.pointer (some ⟨w.heap.size,0,none⟩)) { w with heap:=w.heap.push (.mapIter (some mb) clock #[] clock) }:=run_range_map w t k e mb es clock ht hb
theorem run_next_at {w:World} (ty:TypeId) {bi bm since c0 clock:Nat} {seen:Array Nat} {es:Array MapEntry} (hi:w.heap[bi]?=some (.mapIter (some bm) since seen c0)) (hb:w.heap[bm]?=some (.map es clock)) (hold:∀x∈es.toList,x.born<since) (hsc:since≤c0) :
  ((leftOf es seen).size=0∧(Instr.next (.pointer (some ⟨bi,0,none⟩)) false ty).run P w=.ok (.tuple #[.bool false]) w) ∨
  ∃e∈(leftOf es seen).toList,∃m:Bool,(Instr.next (.pointer (some ⟨bi,0,none⟩)) false ty).run P w=.ok (.tuple #[.bool true,e.key,e.val]) { w with heap:=w.heap.setIfInBounds bi (.mapIter (some bm) since (seen.push e.born) clock),drawn:=if m then w.drawn+1 else w.drawn }:=by
 simp only[Instr.next,getObj,Sem.run_bind,Sem.run,hi,hb,Result.andThen,next_test_false seen es since c0 hold hsc,Bool.false_eq_true,if_false]
 unfold leftOf
 have hmem:∀x∈(Array.filter (fun e=>!seen.contains e.born) es).toList,x.born<since:=fun x hx=>hold x (by simp at hx ⊢;exact hx.1)
 generalize Array.filter (fun e=>!seen.contains e.born) es=L at hmem ⊢
 have e1:L.filter (fun x=>decide (x.born<since))=L:=Array.filter_eq_self.2 (fun x hx=>by simpa using hmem x (by simpa using hx))
 have e2:L.filter (fun x=>decide (x.born≥since)) = #[]:=by
  rw[Array.filter_eq_empty_iff]
  intro x hx
  have:=hmem x (by simpa using hx)
  simp
  omega
 simp only[e1,e2,Array.append_empty]
 by_cases h0:L.size=0
 ·left
  have:L = #[]:=Array.eq_empty_of_size_eq_zero h0
  subst this
  refine⟨rfl,?_⟩
  simp[choose,Sem.run,Question.forced]
 ·right
  have hne:L.isEmpty=false:=by simp[Array.isEmpty,h0]
  simp only[hne,Bool.false_eq_true,if_false,Array.empty_append,Array.size_map]
  have hch:∃(j:Nat) (m:Bool),j<L.size∧(choose (Question.mapNext L.size)).run P w=.ok j { w with drawn:=if m then w.drawn+1 else w.drawn }:=by
   by_cases hf:L.size≤1
   ·exact⟨0,false,by omega,by simp[choose,Sem.run,Question.forced,hf]⟩
   ·exact⟨_,true,Nat.mod_lt _ (by omega),by
     simp only[choose,Sem.run,Question.forced,decide_eq_true_eq,hf,if_false,Question.cut]
     rfl⟩
  obtain⟨j,m,hj,hrun⟩:=hch
  refine⟨L[j],by simp,m,?_⟩
  have hset:∀(o':Obj) (dr:Nat),(setObj bi o').run P { w with drawn:=dr }=.ok () { w with heap:=w.heap.setIfInBounds bi o',drawn:=dr }:=fun o' dr=>by
   simp only[setObj,Sem.run,hi]
  simp only[hrun,Array.getElem?_map,Array.getElem?_eq_getElem hj,Option.map_some,Sem.run_bind,hset,Result.andThen]
  rfl
theorem run_entry_at {w:World} {bi bm since clock:Nat} {seen:Array Nat} {es:Array MapEntry} {e:MapEntry} (hi:w.heap[bi]?=some (.mapIter (some bm) since (seen.push e.born) clock)) (hb:w.heap[bm]?=some (.map es clock)) (he:e∈es.toList) (hn:(es.toList.map (·.born)).Nodup) :
  (Instr.entry (.pointer (some ⟨bi,0,none⟩))).run P w=.ok (.tuple #[e.key,e.val]) w:=by
 have hf:es.find? (·.born==e.born)=some e:=by rw[←Array.find?_toList];exact find_born e es.toList hn he
 simp only[Instr.entry,getObj,Sem.run_bind,Sem.run,hi,hb,Result.andThen,Array.back?_push,bne_self_eq_false,Bool.false_eq_true,if_false,hf]
 rfl
end run
section rules
variable {P:Program} {f:Func} {R:Act→World→Prop} {n:Nat} {k:List Itm} {E:Env} {h r:List (Nat×Obj)} {F:List (List Nat×World)} {Y:Ghost}
theorem rngOf_sound {ops:Array Oper} {i:Nat} {xv:Value} {t:TypeId} {dst:Option Tmp} (he:rngOf n ops E i=some (t,xv,dst))
  {a:Act} {w:World} {fps:List (List Nat)} (s:StF n E h r F Y a w fps) {K:Act→World→Prop}
  (H:∃v' w',(Instr.range t xv).run P w=.ok v' w'∧∀a',Ag n (E.put dst (.val v')) a'→K a' w'):wpOp P ops (wpK P f R k) i K a w:=by
 unfold rngOf at he
 split at he
 ·cases he
 rename_i o ho
 split at he
 case isFalse=>cases he
 rename_i hd
 split at he
 ·cases he
 rename_i hg
 split at he
 case h_2=>cases he
 rename_i t' x hc
 split at he
 case h_2=>cases he
 rename_i hq
 simp only[Option.some.injEq,Prod.mk.injEq]at he
 obtain⟨rfl,rfl,rfl⟩:=he
 have e1:a.eval x=rho E x:=opsOk_sound s.ag (fun c w h=>by cases h) _ _ hq trivial x (by simp)
 obtain⟨v',w',hrun,hk⟩:=H
 unfold wpOp
 simp only[ho]
 rw[if_pos (by simp[Region.wanted,hg])]
 refine .inl ?_
 unfold Oper.wp execOp
 simp only[hc,Sem.run_bind,Sem.run_pure,Result.andThen_ok,e1,hrun]
 exact hk _ (s.ag.put hd (.val v'))
theorem nxtOf_sound {ops:Array Oper} {i:Nat} {xv:Value} {b:Bool} {dst:Option Tmp} (he:nxtOf n ops E i=some (xv,b,dst))
  {a:Act} {w:World} {fps:List (List Nat)} (s:StF n E h r F Y a w fps) {K:Act→World→Prop}
  (H:∀ty,∃v' w',(Instr.next xv b ty).run P w=.ok v' w'∧∀a',Ag n (E.put dst (.val v')) a'→K a' w'):wpOp P ops (wpK P f R k) i K a w:=by
 unfold nxtOf at he
 split at he
 ·cases he
 rename_i o ho
 split at he
 case isFalse=>cases he
 rename_i hd
 split at he
 ·cases he
 rename_i hg
 split at he
 case h_2=>cases he
 rename_i x b' hc
 split at he
 case h_2=>cases he
 rename_i hq
 simp only[Option.some.injEq,Prod.mk.injEq]at he
 obtain⟨rfl,rfl,rfl⟩:=he
 have e1:a.eval x=rho E x:=opsOk_sound s.ag (fun c w h=>by cases h) _ _ hq trivial x (by simp)
 obtain⟨v',w',hrun,hk⟩:=H o.type
 unfold wpOp
 simp only[ho]
 rw[if_pos (by simp[Region.wanted,hg])]
 refine .inl ?_
 unfold Oper.wp execOp
 simp only[hc,Sem.run_bind,Sem.run_pure,Result.andThen_ok,e1,hrun]
 exact hk _ (s.ag.put hd (.val v'))
theorem entOf_sound {ops:Array Oper} {i:Nat} {xv:Value} {dst:Option Tmp} (he:entOf n ops E i=some (xv,dst))
  {a:Act} {w:World} {fps:List (List Nat)} (s:StF n E h r F Y a w fps) {K:Act→World→Prop}
  (H:∃v' w',(Instr.entry xv).run P w=.ok v' w'∧∀a',Ag n (E.put dst (.val v')) a'→K a' w'):wpOp P ops (wpK P f R k) i K a w:=by
 unfold entOf at he
 split at he
 ·cases he
 rename_i o ho
 split at he
 case isFalse=>cases he
 rename_i hd
 split at he
 ·cases he
 rename_i hg
 split at he
 case h_2=>cases he
 rename_i x hc
 split at he
 case h_2=>cases he
 rename_i hq
 simp only[Option.some.injEq,Prod.mk.injEq]at he
 obtain⟨rfl,rfl⟩:=he
 have e1:a.eval x=rho E x:=opsOk_sound s.ag (fun c w h=>by cases h) _ _ hq trivial x (by simp)
 obtain⟨v',w',hrun,hk⟩:=H
 unfold wpOp
 simp only[ho]
 rw[if_pos (by simp[Region.wanted,hg])]
 refine .inl ?_
 unfold Oper.wp execOp
 simp only[hc,Sem.run_bind,Sem.run_pure,Result.andThen_ok,e1,hrun]
 exact hk _ (s.ag.put hd (.val v'))
theorem src_acc {a:Act} {w:World} {fps:List (List Nat)} (s:StF n E h r F Y a w fps) (p:Nat) {a0:Option Addr} {m c e size:Nat} {rows:List (List D)} (hp:Y.C[p]?=some (cAcc (.slice a0 m c) e size rows)):SrcAt w (Sd Y h fps) a0 m size rows:=by
 obtain⟨fp,hfp,_,hP⟩:=s.gh.chs.at hp
 rcases hP with ⟨rfl,h2,_⟩|⟨g,cap,cur,xs,h2,_,h3,h4,h5⟩
 ·cases h2
  exact⟨rfl,.inl ⟨rfl,rfl⟩⟩
 ·cases h2
  refine⟨rfl,.inr ⟨_,xs,rfl,h4.len,fun j u hu=>?_,h5⟩⟩
  have hadd:(⟨g,0,none⟩:Addr).add j=⟨g,0+j,none⟩:=by unfold Addr.add;split <;> simp_all
  rw[hadd]
  refine cell_of rfl h3 rfl ?_
  rw[Nat.zero_add,h4.at]
  ·exact hu
  ·rw[←h4.len]
   exact(List.getElem?_eq_some_iff.1 hu).1
theorem JR_range {id L0 i:Nat} {ck:Bool} {Wp:List (Nat×List Nat)} {rest:List (Nat×Bool)} (hn:Hn) (mb t kt et:Nat) (dst:Option Tmp) {es:Array MapEntry} {clock:Nat}
  (he:rngOf n (rgOf f id) E i=some (t,.map (some mb),dst)) (hok:(!ck||okW L0 (Wp.lookup i) [])=true) (ht:P.underlying t=some (.map kt et)) (hp:hn.get h r=some (mb,.map es clock))
  (A:∀bi,JR P f R n (rgOf f id) L0 ck rest (Wp.filter (·.1 != i)) k (E.put dst (.val (.pointer (some ⟨bi,0,none⟩)))) (h++[(bi,.mapIter (some mb) clock #[] clock)]) r F Y) :
  JR P f R n (rgOf f id) L0 ck ((i,false)::rest) Wp k E h r F Y:=by
 intro BB Hd fps a w s hH hR hN hW
 simp only[PW]
 have hb:w.heap[mb]?=some (.map es clock):=s.own.get hp
 refine rngOf_sound he s ⟨_,_,run_range_at ht hb,fun a' hA=>?_⟩
 have d:Did h (h++[(w.heap.size,.mapIter (some mb) clock #[] clock)]) [] w { w with heap:=w.heap.push (.mapIter (some mb) clock #[] clock) }:=did_new _
 have hO:=own_new s.own (.mapIter (some mb) clock #[] clock)
 refine⟨fun hck=>okW_sound d (by simpa [hck]using hok) hN,?_⟩
 rw[filter_idsW,←idsW_did hR.len d _ (okWp_filter hW)]
 exact A w.heap.size BB Hd fps a' _ (s.go hA hO d.dd) hH (hR.did d) (hN.did hR.size d) (okWp_filter hW)
theorem JR_next {id L0 i:Nat} {ck:Bool} {Wp:List (Nat×List Nat)} {rest:List (Nat×Bool)} (p bi:Nat) (hn:Hn) (mb:Nat) (dst:Option Tmp) {es:Array MapEntry} {clock since c0:Nat} {seen:Array Nat}
  (he:nxtOf n (rgOf f id) E i=some (.pointer (some ⟨bi,0,none⟩),false,dst)) (hok:(!ck||okW L0 (Wp.lookup i) [p])=true) (hp:h[p]?=some (bi,.mapIter (some mb) since seen c0)) (hm:hn.get h r=some (mb,.map es clock))
  (hold:∀x∈es.toList,x.born<since) (hsc:since≤c0)
  (A:(leftOf es seen).size=0→JR P f R n (rgOf f id) L0 ck rest (Wp.filter (·.1 != i)) k (E.put dst (.val (.tuple #[.bool false]))) h r F Y)
  (B:∀e∈(leftOf es seen).toList,JR P f R n (rgOf f id) L0 ck rest (Wp.filter (·.1 != i)) k (E.put dst (.val (.tuple #[.bool true,e.key,e.val]))) (h.set p (bi,.mapIter (some mb) since (seen.push e.born) clock)) r F Y) :
  JR P f R n (rgOf f id) L0 ck ((i,false)::rest) Wp k E h r F Y:=by
 intro BB Hd fps a w s hH hR hN hW
 simp only[PW]
 have hb:w.heap[mb]?=some (.map es clock):=s.own.get hm
 have hi:w.heap[bi]?=some (.mapIter (some mb) since seen c0):=s.own.own _ (List.mem_of_getElem? hp)
 refine nxtOf_sound he s fun ty=>?_
 rcases run_next_at (P:=P) ty hi hb hold hsc with ⟨h0,hrun⟩|⟨e,heL,m,hrun⟩
 ·refine⟨_,_,hrun,fun a' hA=>⟨fun _ b _ _=>rfl,?_⟩⟩
  have dd:=Did.refl h [] w
  rw[filter_idsW]
  exact A h0 BB Hd fps a' w (s.go hA s.own dd.dd) hH hR hN (okWp_filter hW)
 ·refine⟨_,_,hrun,fun a' hA=>?_⟩
  cases m with
  | false=>exact JR_setmap hok hp s hH hR hN hW hA (B e heL)
  | true=>exact JR_setmap hok hp s.drew hH ⟨hR.old,hR.ro,hR.len,hR.size⟩ hN hW hA (B e heL)
theorem JR_entry {id L0 i:Nat} {ck:Bool} {Wp:List (Nat×List Nat)} {rest:List (Nat×Bool)} (hi hn:Hn) (bi mb:Nat) (dst:Option Tmp) {es:Array MapEntry} {clock since:Nat} {seen:Array Nat} {e:MapEntry}
  (he:entOf n (rgOf f id) E i=some (.pointer (some ⟨bi,0,none⟩),dst)) (hp:hi.get h r=some (bi,.mapIter (some mb) since (seen.push e.born) clock)) (hm:hn.get h r=some (mb,.map es clock)) (hmem:e∈es.toList) (hnd:(es.toList.map (·.born)).Nodup)
  (A:JR P f R n (rgOf f id) L0 ck rest (Wp.filter (·.1 != i)) k (E.put dst (.val (.tuple #[e.key,e.val]))) h r F Y) :
  JR P f R n (rgOf f id) L0 ck ((i,false)::rest) Wp k E h r F Y:=by
 intro BB Hd fps a w s hH hR hN hW
 simp only[PW]
 refine entOf_sound he s ⟨_,_,run_entry_at (s.own.get hp) (s.own.get hm) hmem hnd,fun a' hA=>⟨fun _ b _ _=>rfl,?_⟩⟩
 have dd:=Did.refl h [] w
 rw[filter_idsW]
 exact A BB Hd fps a' w (s.go hA s.own dd.dd) hH hR hN (okWp_filter hW)
end rules
end Go.Sx
end
section
namespace Go.Sx
open Go
structure WinS where
 i:Int
 a:Option Addr
 k:Nat
 c:Nat
end Go.Sx
namespace Go.Proofs.YtpjkiomccpjboaaGreatDoor
open Go Go.Sx
def hasC (c:ComT) (d:DotT):Bool:=decide (c.place=d.place)&&decide (c.when.getD c.place.toNat 0=d.time)&&c.ops.any fun o=>decide (o.no=d.no)
def hasL (K:List ComT) (d:DotT):Bool:=K.any fun c=>hasC c d
theorem hasL_next {K:List ComT} {d:DotT} {i:Int} {x:ComT} (h0:0≤i) (hx:K[i.toNat]?=some x) (h:hasL (K.take i.toNat) d=false) (hc:hasC x d=false):hasL (K.take (i+1).toNat) d=false:=by
 rw[←take_snoc h0 hx,hasL,List.any_append]
 rw[hasL]at h
 rw[h]
 simp[hc]
theorem hasL_true {K:List ComT} {d:DotT} {x:ComT} (hx:x∈K) (hc:hasC x d=true):hasL K d=true:=List.any_eq_true.2 ⟨x,hx,hc⟩
theorem pairL {α:Type} {l:List α} (h:l.length=2):∃x y,l=[x,y]:=by
 match l,h with
 | [x,y],_=>exact⟨x,y,rfl⟩
set_option maxHeartbeats 4000000 in
theorem rHas {w:World} {S:Nat→Prop} {M:List Nat} {mb:Nat} {ba la:Option Addr} {nb cb lk lc:Nat} {K:List ComT} {d:DotT} (hP:Pre w S M [cObj mb (.cells #[.slice ba nb cb,.slice la lk lc] 85 (0,0)),cAcc (.slice la lk lc) 28 3 (K.map eCom)])
  (hKl:K.length≤1000000) (hK:∀c∈K,0≤c.place∧c.place<c.when.length∧c.ops.length≤1000000) :
  Calls Tryz.prog 77 #[.pointer (some ⟨mb,0,none⟩),dotV d] w fun e w'=>Ret M w S w' e (.bool (hasL K d)) [cObj mb (.cells #[.slice ba nb cb,.slice la lk lc] 85 (0,0)),cAcc (.slice la lk lc) 28 3 (K.map eCom)] []:=by
 refine enG Tryz.func77 bd77 (args:=[.pointer (some ⟨mb,0,none⟩),dotV d]) (S:=S) (G:=[]) (by kernel_rfl) hP (.nil _ _) ?_
 refine J_stpx (stp_acclen 1 rfl) fun _ hk=>?_
 rw[List.length_map]at hk
 subst hk
 refine J_show 0 rfl ?_
 by_cases hK0:K=[]
 ·subst hK0
  refine Zv [.wr 0 [] 0,zR 1] [] [1] (fun nu1=>[zP 3 (nu1 0),zB 4 false]) (fun nu1=>[(mb,.cells #[.slice ba nb cb,.slice la 0 lc] 85 (0,0)),(nu1 0,.cells #[nI d.place,nI d.time,nI d.no] 65 (0,0))]) (fun nu1=>?_)
  refine J_seq ?_
  refine Zs [zR 0] [] [zI 5 0] ?_
  refine J_block ?_
  refine J_loop1 fun I=>?_
  refine J_seq ?_
  refine Zs (Rds 0 4++[.rd 4 [.o 0 none] 0 0,zR 5,zR 6]) [] [zB 14 false] ?_
  refine cF ?_
  refine J_exit rfl ?_
  refine Zs [zR 0] [14,5,3,0] [] ?_
  refine Yr [[]] (.bool false) fun a w s=>?_
  exact(s.hide 0 rfl).ret (by simp) [1,0] [] rfl rfl
 ·refine J_openacc 0 rfl (by simpa using hK0) fun g cur xs hu _ _ hrow=>?_
  subst hu
  try simp only[aQ]
  refine J_seq ?_
  try simp only[aQ]
  refine Zm [.wr 0 [] 0,zR 1] [] [1] (fun nu1=>[zP 3 (nu1 0),zB 4 false]) (fun nu1=>[(mb,.cells #[.slice ba nb cb,.slice (sA g 0) K.length lc] 85 (0,0)),(g,.cells cur 28 (0,0)),(nu1 0,.cells #[nI d.place,nI d.time,nI d.no] 65 (0,0))]) (fun nu1=>?_)
  try simp only[aQ]
  refine J_seq ?_
  try simp only[aQ]
  refine J_seq ?_
  try simp only[aQ]
  refine Za [zR 0] [] [zI 5 0] ?_
  try simp only[aQ]
  refine J_block ?_
  try simp only[aQ]
  refine J_loopx (fun i:Int=>[zP 0 mb,zP 3 (nu1 0),zB 4 false,zI 5 i]) (fun i:Int=>[(mb,.cells #[.slice ba nb cb,.slice (sA g 0) K.length lc] 85 (0,0)),(g,.cells cur 28 (0,0)),(nu1 0,.cells #[nI d.place,nI d.time,nI d.no] 65 (0,0))]) (fun i:Int=>[cRows xs 3 (K.map eCom)]) (fun i:Int=>[]) (fun i:Int=>(K.length - i).toNat) (fun i:Int=>(0≤i∧i≤K.length∧hasL (K.take i.toNat) d=false)) 0 [0,3,4,5] [0,1,2] [0] [] ?_ (by kernel_rfl) rfl rfl rfl ?_
  ·exact⟨by simp,by simp,rfl⟩
  rintro i ⟨hi0,hi,hno⟩
  refine J_seq ?_
  refine Zs (Rds 0 4++[.rd 4 [.o 0 none] 0 0,zR 5,zR 6]) [] [zB 14 (decide (i<(↑K.length:Int)))] ?_
  refine cC (t:=decide (i<(↑K.length:Int))) (fun hlt=>?_) (fun hlt=>?_)
  ·have hlt2:i<K.length:=by simpa using hlt
   obtain⟨x,hx⟩:∃x,K[i.toNat]?=some x:=⟨_,List.getElem?_eq_getElem (by omega)⟩
   obtain⟨hp0,hp1,hol⟩:=hK x (List.mem_of_getElem? hx)
   refine J_stpx (stp_readrows 0 rfl i.toNat (map_at hx)) fun ls hls=>?_
   obtain⟨hls1,hls2⟩:=hls
   obtain⟨⟨xa,xc⟩,⟨ya,yc⟩,rfl⟩:=pairL hls1
   have f:=fun(j:Nat) v h=>hrow.atx (hls2 j v h)
   have r0:=f 0 _ rfl
   have r1:=f 1 _ rfl
   have r2:=f 2 _ rfl
   rw[Nat.add_zero]at r0
   rw[←Nat.zero_add (i.toNat*3)]at r0 r1 r2
   refine Nm [(cRows xs 3 (List.map eCom K))] ?_
   try simp only[aQ]
   refine J_skip (J_seq (J_block ?_))
   refine Zu (Rds 0 3++[.rd 3 [.o 0 none] 0 0,zR 4,.rd 5 [] 0 2,.rd 6 [.o 1 (some (.slice (xa,xc).fst ((List.map eI x.when).length) xc)),.o 1 (some (nI x.place)),.o 1 (some (.slice (ya,yc).fst ((List.map eOp x.ops).length) yc))] 0 0,.wr 7 [] 0,.wr 8 (hnO 3 3) 0]) [(8,[])] [14] (fun nu2=>[zP 6 (nu2 0)]) (fun nu2=>[(mb,.cells #[.slice ba nb cb,.slice (sA g 0) K.length lc] 85 (0,0)),(g,.cells cur 28 (0,0)),(nu1 0,.cells #[nI d.place,nI d.time,nI d.no] 65 (0,0)),(nu2 0,.cells #[.slice (xa,xc).fst ((List.map eI x.when).length) xc,nI x.place,.slice (ya,yc).fst ((List.map eOp x.ops).length) yc] 28 (0,0))]) (fun nu2=>[0≤i,i<(↑K.length:Int),cur[(0:Nat)+i.toNat*3]?=some (Value.slice (xa,xc).fst (List.map eI x.when).length (xa,xc).snd),cur[(0:Nat)+i.toNat*3+(1:Nat)]?=some (nI x.place),cur[(0:Nat)+i.toNat*3+(2:Nat)]?=some (Value.slice (ya,yc).fst (List.map eOp x.ops).length (ya,yc).snd)]) (fun _=>⟨hi0,hlt2,r0,r1,r2,trivial⟩) (fun nu2=>?_)
   refine J_seq (J_seq ?_)
   obtain⟨t,ht⟩:∃t,x.when[x.place.toNat]?=some t:=⟨_,List.getElem?_eq_getElem (by omega)⟩
   have htd:x.when.getD x.place.toNat 0=t:=by simp[List.getD_eq_getElem?_getD,ht]
   by_cases hpl:x.place=d.place
   ·refine J_read0 0 rfl x.place.toNat (map_at ht) (by kernel_rfl) (fun b1 off1 cs1 ty1 fz1 ha1 hrd1=>?_)
    cases ha1
    have hrd1_0:=rd0 (hrd1 0 _ rfl)
    by_cases htm:t=d.time
    ·try simp only[aQ]
     refine Zp [zR 0,.rd 1 [.o 3 none] 0 0,zR 2,.rd 3 [.o 2 none] 0 0,.rd 4 [] 0 7,zR 5,zR 6,.rd 7 [.o 3 none] 0 0,zR 8,.rd 9 [.o 3 none] 0 0,.rd 10 [] 0 2,.rd 11 [.r 0 (some (nI t))] 0 0,zR 12,.rd 13 [.o 2 none] 0 0,.rd 14 [] 0 7,zR 15] [] [zB 39 false] [(x.place != d.place)=false,0≤x.place,x.place<(↑(List.map eI x.when).length:Int),cs1[off1+x.place.toNat*1]?=some (nI t),(t != d.time)=false] ⟨by simp;omega,hp0,by simp;omega,hrd1_0,by simp;omega,trivial⟩ ?_
     try simp only[aQ]
     refine cF ?_
     try simp only[aQ]
     refine J_skip ?_
     try simp only[aQ]
     refine J_seq ?_
     try simp only[aQ]
     refine Za [zR 0] [39] [zI 7 0] ?_
     try simp only[aQ]
     refine J_block ?_
     try simp only[aQ]
     refine J_loopx (fun k:Int=>[zP 0 mb,zP 3 (nu1 0),zB 4 false,zI 5 i,zP 6 (nu2 0),zI 7 k]) (fun k:Int=>[(mb,.cells #[.slice ba nb cb,.slice (sA g 0) K.length lc] 85 (0,0)),(g,.cells cur 28 (0,0)),(nu1 0,.cells #[nI d.place,nI d.time,nI d.no] 65 (0,0)),(nu2 0,.cells #[.slice (sA b1 off1) ((List.map eI x.when).length) xc,nI x.place,.slice ya ((List.map eOp x.ops).length) yc] 28 (0,0))]) (fun k:Int=>[cRows xs 3 (K.map eCom)]) (fun k:Int=>[(.slice (sA b1 off1) ((List.map eI x.when).length) xc,(D.sl 1 (List.map eI x.when))),(.slice (ya,yc).fst ((List.map eOp x.ops).length) yc,(D.sl 7 (List.map eOp x.ops)))]) (fun k:Int=>(x.ops.length - k).toNat) (fun k:Int=>(0≤k∧k≤x.ops.length∧(x.ops.take k.toNat).any (fun o=>decide (o.no=d.no))=false)) 0 [0,3,4,5,6,7] [0,1,2,3] [0] [0,1] ?_ (by kernel_rfl) rfl rfl rfl ?_
     ·exact⟨by simp,by simp,rfl⟩
     rintro k ⟨hk0,hk,hnk⟩
     refine J_seq ?_
     refine Zs [zR 0,zR 1,.rd 2 [.o 3 none] 0 0,zR 3,zR 4] [] [zB 44 (decide (k<(↑(List.map eOp x.ops).length:Int)))] ?_
     refine cC (t:=decide (k<(↑(List.map eOp x.ops).length:Int))) (fun hlk=>?_) (fun hlk=>?_)
     ·have hlk2:k<x.ops.length:=by simpa using hlk
      obtain⟨o,ho⟩:∃o,x.ops[k.toNat]?=some o:=⟨_,List.getElem?_eq_getElem (by omega)⟩
      refine J_read1 1 rfl k.toNat (map_at ho) (by kernel_rfl) (fun b2 off2 cs2 ty2 fz2 a2_0 c2_0 ha2 hrd2=>?_)
      cases ha2
      have hrd2_0:=rd0 (hrd2 0 _ rfl)
      have hrd2_1:=hrd2 1 _ rfl
      have hrd2_2:=hrd2 2 _ rfl
      have hrd2_3:=hrd2 3 _ rfl
      have hrd2_4:=hrd2 4 _ rfl
      have hrd2_5:=hrd2 5 _ rfl
      have hrd2_6:=hrd2 6 _ rfl
      try simp only[aQ]
      refine J_skip (J_seq (J_block ?_))
      refine Zt [zR 0,.rd 1 [.o 3 none] 0 0,zR 2,.rd 3 [] 0 2,zR 4,.rd 5 [.r 1 (some (nI o.no))] 0 0,zR 6,.rd 7 [.o 2 none] 0 0,zR 8] [44] [zB 55 (o.no==d.no)] [0≤k,k<(↑(List.map eOp x.ops).length:Int),cs2[off2+k.toNat*7]?=some (nI o.no)] ⟨hk0,by simp;omega,hrd2_0,trivial⟩ ?_
      refine cC (t:=o.no==d.no) (fun heq=>?_) (fun heq=>?_)
      ·have hc:hasC x d=true:=by
        rw[hasC,htd,Bool.and_eq_true,Bool.and_eq_true]
        exact⟨⟨by simpa using hpl,by simpa using htm⟩,List.any_eq_true.2 ⟨o,List.mem_of_getElem? ho,by simpa using heq⟩⟩
       rw[hasL_true (List.mem_of_getElem? hx) hc]
       refine Zs [zR 0] [55] [zB 4 true] ?_
       refine Yr [[]] (.bool true) fun a w s=>?_
       have s1:=(s.hide 1 rfl).stp (stp_closeacc 1 0 rfl rfl hrow (by decide))
       rw[show(List.map eCom K).length=K.length from List.length_map ..]at s1
       exact(s1.hide 0 rfl).ret (by simp) [1,0] [] rfl rfl
      ·refine J_skip ?_
       refine J_eb ?_
       refine Zp [zR 0,.rd 1 [] 0 1,zR 2] [55] [zI 7 (k+1)] [IntKind.i64.wrap (k+1)=k+1] ⟨wrap_i64 (by omega) (by omega),trivial⟩ ?_
       refine J_backx (k+1) [0,3,4,5,6,7] [0,1,2,3] [0] [0,1] ?_ ?_ (by kernel_rfl) rfl rfl rfl
       ·refine⟨by omega,by omega,?_⟩
        rw[←take_snoc hk0 ho,List.any_append,hnk]
        simpa using heq
       ·omega
     ·have hc:hasC x d=false:=by
       rw[List.take_of_length_le (by simp at hlk;omega)]at hnk
       rw[hasC,hnk,Bool.and_false]
      refine J_exit rfl ?_
      refine J_eb ?_
      refine Zp [zR 0,.rd 1 [] 0 1,zR 2] [44] [zI 5 (i+1)] [IntKind.i64.wrap (i+1)=i+1] ⟨wrap_i64 (by omega) (by omega),trivial⟩ ?_
      refine J_backx (i+1) [0,3,4,5] [0,1,2] [0] [] ?_ ?_ (by kernel_rfl) rfl rfl rfl
      ·exact⟨by omega,by omega,hasL_next hi0 hx hno hc⟩
      ·omega
    ·have hc:hasC x d=false:=by
      rw[hasC,htd]
      simp[htm]
     try simp only[aQ]
     refine Zp [zR 0,.rd 1 [.o 3 none] 0 0,zR 2,.rd 3 [.o 2 none] 0 0,.rd 4 [] 0 7,zR 5,zR 6,.rd 7 [.o 3 none] 0 0,zR 8,.rd 9 [.o 3 none] 0 0,.rd 10 [] 0 2,.rd 11 [.r 0 (some (nI t))] 0 0,zR 12,.rd 13 [.o 2 none] 0 0,.rd 14 [] 0 6,zR 15] [] [zB 39 true] [(x.place != d.place)=false,0≤x.place,x.place<(↑(List.map eI x.when).length:Int),cs1[off1+x.place.toNat*1]?=some (nI t),(t != d.time)=true] ⟨by simp;omega,hp0,by simp;omega,hrd1_0,by simp;omega,trivial⟩ ?_
     try simp only[aQ]
     refine cTt ?_
     try simp only[aQ]
     refine J_exit rfl ?_
     try simp only[aQ]
     refine Zp [zR 0,.rd 1 [] 0 1,zR 2] [39] [zI 5 (i+1)] [IntKind.i64.wrap (i+1)=i+1] ⟨wrap_i64 (by omega) (by omega),trivial⟩ ?_
     try simp only[aQ]
     refine J_backx (i+1) [0,3,4,5] [0,1,2] [0] [] ?_ ?_ (by kernel_rfl) rfl rfl rfl
     ·exact⟨by omega,by omega,hasL_next hi0 hx hno hc⟩
     ·omega
   ·have hc:hasC x d=false:=by
     rw[hasC]
     simp[hpl]
    refine Zp [zR 0,.rd 1 [.o 3 none] 0 0,zR 2,.rd 3 [.o 2 none] 0 0,.rd 4 [] 0 6,zR 5,.rd 6 [] 1 0,.rd 7 [] 1 0,.rd 8 [] 1 0,.rd 9 [] 1 0,.rd 10 [] 1 0,.rd 11 [] 1 0,.rd 12 [] 1 0,.rd 13 [] 1 0,.rd 14 [] 1 0,zR 15] [] [zB 39 true] [(x.place != d.place)=true] ⟨by simp;omega,trivial⟩ ?_
    refine cTt ?_
    refine J_exit rfl ?_
    refine Zp [zR 0,.rd 1 [] 0 1,zR 2] [39] [zI 5 (i+1)] [IntKind.i64.wrap (i+1)=i+1] ⟨wrap_i64 (by omega) (by omega),trivial⟩ ?_
    refine J_backx (i+1) [0,3,4,5] [0,1,2] [0] [] ?_ ?_ (by kernel_rfl) rfl rfl rfl
    ·exact⟨by omega,by omega,hasL_next hi0 hx hno hc⟩
    ·omega
  ·rw[List.take_of_length_le (by simp at hlt;omega)]at hno
   rw[hno]
   refine J_exit rfl ?_
   refine Zs [zR 0] [14,0,3,5] [] ?_
   refine Yr [[]] (.bool false) fun a w s=>?_
   have s1:=(s.hide 1 rfl).stp (stp_closeacc 1 0 rfl rfl hrow (by decide))
   rw[show(List.map eCom K).length=K.length from List.length_map ..]at s1
   exact(s1.hide 0 rfl).ret (by simp) [1,0] [] rfl rfl
set_option maxHeartbeats 4000000 in
theorem rWithin {w:World} {S:Nat→Prop} {M:List Nat} {mb:Nat} {ba la a1:Option Addr} {nb cb lk lc n1 c1:Nat} {K:List ComT} {at':List Int} (hP:Pre w S M [cObj mb (.cells #[.slice ba nb cb,.slice la lk lc] 85 (0,0)),cAcc (.slice la lk lc) 28 3 (K.map eCom)])
  (hKl:K.length≤1000000) (hK:∀c∈K,c.when.length=at'.length) (h1:Rep w S (.slice a1 n1 c1) (dInts at')) (hl1:at'.length≤1000000) :
  Calls Tryz.prog 41 #[.pointer (some ⟨mb,0,none⟩),.slice a1 n1 c1] w fun e w'=>∃ua un uc,Ret M w S w' e (.slice ua un uc) [cObj mb (.cells #[.slice ba nb cb,.slice la lk lc] 85 (0,0)),cAcc (.slice la lk lc) 28 3 (K.map eCom)] [(.slice ua un uc,.sl 3 ((K.filter fun c=>inL c.when at').map eCom))]:=by
 obtain rfl:=rep_ints_len h1
 refine enG Tryz.func41 bd41 (args:=[.pointer (some ⟨mb,0,none⟩),.slice a1 at'.length c1]) (S:=S) (G:=[(_,dInts at')]) (by kernel_rfl) hP (.cons h1 (.nil _ _)) ?_
 refine J_stpx (stp_acclen 1 rfl) fun _ hk=>?_
 rw[List.length_map]at hk
 subst hk
 refine J_show 0 rfl ?_
 by_cases hK0:K=[]
 ·subst hK0
  refine Zs [zR 0] [] [zS 4 none 0 0] ?_
  refine Zs [zR 0] [] [zS 5 none 0 0] ?_
  refine J_seq ?_
  refine Zs [zR 0] [] [zI 6 0] ?_
  refine J_block ?_
  refine J_loop1 fun I=>?_
  refine J_seq ?_
  refine Zs (Rds 0 4++[.rd 4 [.o 0 none] 0 0,zR 5,zR 6]) [] [zB 14 false] ?_
  refine cF ?_
  refine J_exit rfl ?_
  refine Zs [zR 0,zR 1] [14,6,5,0,1] [] ?_
  refine Yr [[]] (.slice none 0 0) fun a w s=>?_
  exact⟨_,_,_,((s.hide 0 rfl).stp (stp_fact (v:=.slice none 0 0) (d:=.sl 3 (([]:List ComT).map eCom)) fun _ _ _=>.nil)).ret (by simp) [1,0] [1] rfl rfl⟩
 ·refine J_openacc 0 rfl (by simpa using hK0) fun g cur xs hu _ _ hrow=>?_
  subst hu
  refine J_stp (stp_accm eCom 28 3) ?_
  try simp only[aQ]
  refine J_seq ?_
  try simp only[aQ]
  refine Za [zR 0] [] [zS 4 none 0 0] ?_
  try simp only[aQ]
  refine J_seq ?_
  try simp only[aQ]
  refine Za [zR 0] [] [zS 5 none 0 0] ?_
  try simp only[aQ]
  refine J_seq ?_
  try simp only[aQ]
  refine J_seq ?_
  try simp only[aQ]
  refine Za [zR 0] [] [zI 6 0] ?_
  try simp only[aQ]
  refine J_block ?_
  try simp only[aQ]
  refine J_loopx (fun y:WinS=>[zP 0 mb,zS 1 a1 at'.length c1,zS 4 none 0 0,zS 5 y.a y.k y.c,zI 6 y.i]) (fun y:WinS=>[(mb,.cells #[.slice ba nb cb,.slice (sA g 0) K.length lc] 85 (0,0)),(g,.cells cur 28 (0,0))]) (fun y:WinS=>[cRows xs 3 (K.map eCom),cAcc (.slice y.a y.k y.c) 28 3 (((K.take y.i.toNat).filter fun c=>inL c.when at').map eCom)]) (fun y:WinS=>[(.slice a1 at'.length c1,(dInts at'))]) (fun y:WinS=>(K.length - y.i).toNat) (fun y:WinS=>(0≤y.i∧y.i≤K.length)) ⟨0,none,0,0⟩ [0,1,4,5,6] [0,1] [0,1] [0] ?_ (by kernel_rfl) rfl rfl rfl ?_
  ·exact⟨by simp,by simp⟩
  rintro⟨i,a3,k3,c3⟩ ⟨hi0,hi⟩
  dsimp only at hi0 hi ⊢
  refine J_stpx (stp_acclen 1 rfl) fun _ hk3=>?_
  have hk4:k3≤1000000:=by
   rw[List.length_map]at hk3
   have h1:=List.length_filter_le (fun c:ComT=>inL c.when at') (K.take i.toNat)
   rw[List.length_take]at h1
   omega
  refine J_seq ?_
  refine Zs (Rds 0 4++[.rd 4 [.o 0 none] 0 0,zR 5,zR 6]) [] [zB 14 (decide (i<(↑K.length:Int)))] ?_
  refine cC (t:=decide (i<(↑K.length:Int))) (fun hlt=>?_) (fun hlt=>?_)
  ·have hlt2:i<K.length:=by simpa using hlt
   obtain⟨x,hx⟩:∃x,K[i.toNat]?=some x:=⟨_,List.getElem?_eq_getElem (by omega)⟩
   have hxl:=hK x (List.mem_of_getElem? hx)
   refine J_stpx (stp_readrows 0 rfl i.toNat (map_at hx)) fun ls hls=>?_
   obtain⟨hls1,hls2⟩:=hls
   obtain⟨⟨xa,xc⟩,⟨ya,yc⟩,rfl⟩:=pairL hls1
   have f:=fun(j:Nat) v h=>hrow.atx (hls2 j v h)
   have r0:=f 0 _ rfl
   have r1:=f 1 _ rfl
   have r2:=f 2 _ rfl
   rw[Nat.add_zero]at r0
   rw[←Nat.zero_add (i.toNat*3)]at r0 r1 r2
   refine Nm [(cRows xs 3 (List.map eCom K)),cAcc (.slice a3 k3 c3) 28 3 (List.map eCom (List.filter (fun c=>inL c.when at') (List.take i.toNat K)))] ?_
   try simp only[aQ]
   refine J_skip (J_seq (J_block ?_))
   refine jS [(0,true),(1,true),(2,true),(3,true),(4,true),(5,true),(6,true),(7,true),(8,true),(9,false),(10,true)] [] ?_
   refine Yp (id:=5) (rest:=[(9,false),(10,true)]) (Rds 0 3++[.rd 3 [.o 0 none] 0 0,zR 4,.rd 5 [] 0 2,zR 6,.rd 7 [.o 1 (some (.slice (xa,xc).fst ((List.map eI x.when).length) xc))] 0 0,zR 8]) [14] [zS 24 (xa,xc).fst ((List.map eI x.when).length) xc,zS 25 a1 at'.length c1] [0≤i,i<(↑K.length:Int),cur[(0:Nat)+i.toNat*3]?=some (Value.slice (xa,xc).fst (List.map eI x.when).length (xa,xc).snd)] ⟨hi0,hlt2,r0,trivial⟩ ?_
   refine Yc 76 #[.slice (xa,xc).fst ((List.map eI x.when).length) xc,.slice a1 at'.length c1] (some 26) fun w S hG=>?_
   refine(rIn (hG.at 1 rfl) (hG.at 0 rfl) (by omega) hxl).mono ?_
   rintro e4 w4 hR
   refine⟨_,_,_,hR,?_⟩
   cases hxi:inL x.when at' with
   | false=>
    have e9:(K.take i.toNat).filter (fun c=>inL c.when at')=(K.take (i+1).toNat).filter fun c=>inL c.when at':=by
     rw[←take_snoc hi0 hx,List.filter_append]
     simp[hxi]
    try simp only[aQ]
    refine Ya (id:=5) (rest:=[]) [zR 10] [26,24,25] [zB 7 false] ?_
    refine JR_end ?_
    refine Zs [zR 0] [] [zB 27 false] ?_
    refine cF ?_
    refine J_skip (J_eb ?_)
    refine Zp [zR 0,.rd 1 [] 0 1,zR 2] [27] [zI 6 (i+1)] [IntKind.i64.wrap (i+1)=i+1] ⟨wrap_i64 (by omega) (by omega),trivial⟩ ?_
    rw[e9]
    refine J_backx ⟨i+1,_,_,_⟩ [0,1,4,5,6] [0,1] [0,1] [0] ?_ ?_ (by kernel_rfl) rfl rfl rfl
    ·exact⟨by simp only;omega,by simp only;omega⟩
    ·simp only
     omega
   | true=>
    have e9:(K.take i.toNat).filter (fun c=>inL c.when at')++[x]=(K.take (i+1).toNat).filter fun c=>inL c.when at':=by
     rw[←take_snoc hi0 hx,List.filter_append]
     simp[hxi]
    try simp only[aQ]
    refine Ya (id:=5) (rest:=[]) [zR 10] [26,24,25] [zB 7 true] ?_
    refine JR_end ?_
    refine Zs [zR 0] [] [zB 27 true] ?_
    refine cTt ?_
    refine jT [(0,true),(1,true),(2,true),(3,true),(4,true),(5,true),(6,true),(7,true),(8,false),(9,false),(10,true)] [] ?_
    refine Yn (id:=7) (rest:=[(9,false),(10,true)]) (Rds 0 4++[.rd 4 [.o 0 none] 0 0,zR 5,.rd 6 [] 0 2,.rd 7 [.o 1 (some (.slice (xa,xc).fst ((List.map eI x.when).length) xc)),.o 1 (some (nI x.place)),.o 1 (some (.slice (ya,yc).fst ((List.map eOp x.ops).length) yc))] 0 0,.wr 8 [] 0]) [27] (fun nu1=>[zS 28 a3 k3 c3,zS 36 (sA (nu1 0) 0) 1 1]) (fun nu1=>[(mb,.cells #[.slice ba nb cb,.slice (sA g 0) K.length lc] 85 (0,0)),(g,.cells cur 28 (0,0)),(nu1 0,.cells #[.slice (xa,xc).fst ((List.map eI x.when).length) xc,nI x.place,.slice (ya,yc).fst ((List.map eOp x.ops).length) yc] 28 (0,0))]) [] (fun nu1=>[0≤i,i<(↑K.length:Int),cur[(0:Nat)+i.toNat*3]?=some (Value.slice (xa,xc).fst (List.map eI x.when).length (xa,xc).snd),cur[(0:Nat)+i.toNat*3+(1:Nat)]?=some (nI x.place),cur[(0:Nat)+i.toNat*3+(2:Nat)]?=some (Value.slice (ya,yc).fst (List.map eOp x.ops).length (ya,yc).snd)]) (fun _=>⟨hi0,hlt2,r0,r1,r2,trivial⟩) (fun nu1=>?_)
    refine JR_appm 1 43 28 3 56 (.agg #[.slice none 0 0,.int .i64 0,.slice none 0 0]) (a0:=a3) (len:=k3) (cap0:=c3) (ax:=(some (⟨nu1 0,0,none⟩))) (m:=1) (c:=1) (dst:=(some 37)) [x] (by kernel_rfl) (by kernel_rfl) (by kernel_rfl) (by kernel_rfl) rfl (by decide) rfl (fun _ _ _ s=>src_one s 2 rfl rfl ⟨.inr (.inl (List.mem_of_getElem? (i:=1) rfl)),⟨.inl ⟨rfl,rfl⟩,⟨.inr (.inl (List.mem_of_getElem? (i:=2) rfl)),trivial⟩⟩⟩) (by simp only[maxLen];omega) (by omega) (fun av1 cv1=>?_)
    rw[e9]
    try simp only[aQ]
    refine Ya (id:=7) (rest:=[]) [zR 10] [37,28,36] [zS 5 av1 (k3+1) cv1] ?_
    try simp only[aQ]
    refine JR_end ?_
    try simp only[aQ]
    refine J_eb ?_
    try simp only[aQ]
    refine Zp [zR 0,.rd 1 [] 0 1,zR 2] [] [zI 6 (i+1)] [IntKind.i64.wrap (i+1)=i+1] ⟨wrap_i64 (by omega) (by omega),trivial⟩ ?_
    try simp only[aQ]
    refine J_backx ⟨i+1,_,_,_⟩ [0,1,4,5,6] [0,1] [0,1] [0] ?_ ?_ (by kernel_rfl) rfl rfl rfl
    ·exact⟨by simp only;omega,by simp only;omega⟩
    ·simp only
     omega
  ·have hil:K.take i.toNat=K:=List.take_of_length_le (by simp at hlt;omega)
   rw[hil]
   refine J_exit rfl ?_
   refine Zs [zR 0,zR 1] [14,0,1,5,6] [zS 4 a3 k3 c3] ?_
   refine Yr [[]] (.slice a3 k3 c3) fun a w s=>?_
   have s1:=(s.hide 1 rfl).stp (stp_closeacc 2 0 rfl rfl hrow (by decide))
   rw[show(List.map eCom K).length=K.length from List.length_map ..]at s1
   exact⟨_,_,_,((s1.stp (stp_freeze 0 rfl)).hide 0 rfl).ret (by simp) [1,0] [1] rfl rfl⟩
end Go.Proofs.YtpjkiomccpjboaaGreatDoor
end
section
namespace Go.Proofs.YtpjkiomccpjboaaGreatDoor
open Go Go.Sx
def hasAt (K:List ComT) (c:ComT) (i:Nat):Nat:=match c.ops[i]? with
 | none=>0
 | some o=>if hasL K (dotOf c o)=true then 6 else 0
def rPutF (p:Nat) (base:List Int) (K:List ComT) (c:ComT):FT:=
 if (comFault c).code≠0 then comFault c
 else if c.when.length≠p then ⟨3,-1⟩
 else if inL c.when base=true then ⟨9,-1⟩
 else scanF (hasAt K c) c.ops.length 0
set_option maxHeartbeats 4000000 in
theorem rVPut {w:World} {S:Nat→Prop} {M:List Nat} {mb p:Nat} {ba la a1 a2:Option Addr} {nb cb lk lc n1 c1 n2 c2:Nat} {K:List ComT} {c:ComT} {base:List Int} (hP:Pre w S M [cObj mb (.cells #[.slice ba nb cb,.slice la lk lc] 85 (0,0)),cAcc (.slice la lk lc) 28 3 (K.map eCom)])
  (hb:Rep w S (.slice ba nb cb) (dInts base)) (hbl:base.length=p) (hp6:p≤6) (h1:Rep w S (.slice a1 n1 c1) (dInts c.when)) (h2:Rep w S (.slice a2 n2 c2) (.sl 7 (c.ops.map eOp))) (hl1:c.when.length≤1000000) (hl2:c.ops.length≤1000000)
  (hKl:K.length≤1000000) (hK:∀c∈K,0≤c.place∧c.place<c.when.length∧c.ops.length≤1000000) :
  Calls Tryz.prog 37 #[.pointer (some ⟨mb,0,none⟩),.agg #[.slice a1 n1 c1,.int .i64 c.place,.slice a2 n2 c2]] w fun e w'=>
   ((rPutF p base K c).code≠0∧Ret M w S w' e (fA (rPutF p base K c)) [cObj mb (.cells #[.slice ba nb cb,.slice la lk lc] 85 (0,0)),cAcc (.slice la lk lc) 28 3 (K.map eCom)] []) ∨
   ((rPutF p base K c).code=0∧∃la2 lk2 lc2,Ret M w S w' e (fA (comFault c)) [cObj mb (.cells #[.slice ba nb cb,.slice la2 lk2 lc2] 85 (0,0)),cAcc (.slice la2 lk2 lc2) 28 3 ((K++[c]).map eCom)] []):=by
 obtain rfl:=rep_ints_len h1
 obtain rfl:=rep_ints_len hb
 subst hbl
 have e2:=h2.slen
 rw[List.length_map]at e2
 subst e2
 refine enG Tryz.func37 bd37 (args:=[.pointer (some ⟨mb,0,none⟩),.agg #[.slice a1 c.when.length c1,.int .i64 c.place,.slice a2 c.ops.length c2]]) (S:=S) (G:=[(_,dInts c.when),(_,.sl 7 (c.ops.map eOp)),(_,dInts base)]) (by kernel_rfl) hP (.cons h1 (.cons h2 (.cons hb (.nil _ _)))) ?_
 refine J_stpx (stp_acclen 1 rfl) fun _ hk=>?_
 rw[List.length_map]at hk
 subst hk
 refine J_show 0 rfl ?_
 refine Zv [.wr 0 [] 0,.wr 1 [] 0] [] [1] (fun nu1=>[zP 3 (nu1 0),zP 4 (nu1 1)]) (fun nu1=>[(mb,.cells #[.slice ba base.length cb,.slice la K.length lc] 85 (0,0)),(nu1 0,.cells #[.slice a1 c.when.length c1,nI c.place,.slice a2 c.ops.length c2] 28 (0,0)),(nu1 1,.cells #[nI 0,nI 0] 40 (0,0))]) (fun nu1=>?_)
 refine jS [(0,true),(1,false),(2,false),(3,false)] [] ?_
 refine Ya (id:=1) (rest:=[(1,false),(2,false),(3,false)]) [.rd 0 (hnO 1 3) 0 0] [] [zV 10 (.agg #[.slice a1 c.when.length c1,nI c.place,.slice a2 c.ops.length c2])] ?_
 refine Yc 19 #[.agg #[.slice a1 c.when.length c1,nI c.place,.slice a2 c.ops.length c2]] (some 11) fun w S hG=>?_
 refine(commitFault (c:=c) (hG.at 0 rfl) (hG.at 1 rfl) hl1 hl2).mono ?_
 rintro e1 w1 hR
 refine⟨_,_,_,hR,?_⟩
 by_cases hv0:(comFault c).code=0
 case neg=>
  have hpf:rPutF base.length base K c=comFault c:=by rw[rPutF,if_pos hv0]
  have hv1:0<((comFault c).code:Int):=by omega
  rw[hpf]
  try simp only[aQ]
  refine Ym (id:=1) (rest:=[]) [.wr 2 [] 0,.wr 3 [.o 3 none,.o 3 none] 0] [11,10] (fun nu2=>[zP 5 (nu2 0)]) (fun nu2=>[(mb,.cells #[.slice ba base.length cb,.slice la K.length lc] 85 (0,0)),(nu1 0,.cells #[.slice a1 c.when.length c1,nI c.place,.slice a2 c.ops.length c2] 28 (0,0)),(nu1 1,.cells #[nI 0,nI 0] 40 (0,0)),(nu2 0,.cells #[nI ((↑(comFault c).code:Int)),nI ((comFault c).at')] 40 (0,0))]) [] (fun nu2=>?_)
  refine JR_end (J_seq ?_)
  refine Zt [zR 0,.rd 1 [.o 3 none] 0 0,.rd 2 [] 0 6] [] [zB 14 true] [decide ((↑(comFault c).code:Int)>(0:Int))=true] ⟨by simp;omega,trivial⟩ ?_
  refine cTt ?_
  refine Zv [.rd 0 [.o 3 none,.o 3 none] 0 0,.wr 1 [.o 2 none,.o 2 none] 0] [(1,[2])] [14] (fun _=>[]) (fun _=>[(mb,.cells #[.slice ba base.length cb,.slice la K.length lc] 85 (0,0)),(nu1 0,.cells #[.slice a1 c.when.length c1,nI c.place,.slice a2 c.ops.length c2] 28 (0,0)),(nu1 1,.cells #[nI ((↑(comFault c).code:Int)),nI ((comFault c).at')] 40 (0,0)),(nu2 0,.cells #[nI ((↑(comFault c).code:Int)),nI ((comFault c).at')] 40 (0,0))]) (fun _=>?_)
  refine Yr [[.o 2 none,.o 2 none]] (.agg #[nI ((↑(comFault c).code:Int)),nI ((comFault c).at')]) fun a w s=>?_
  exact .inl ⟨hv0,(s.hide 0 rfl).ret (by simp) [1,0] [] rfl rfl⟩
 have hrc:=right_of hv0
 have hv1:¬0<((comFault c).code:Int):=by omega
 by_cases hwl:c.when.length=base.length
 case neg=>
  have hpf:rPutF base.length base K c=⟨3,-1⟩:=by rw[rPutF,if_neg (by simp[hv0]),if_pos hwl]
  have hwl2:¬(c.when.length:Int)=base.length:=by omega
  rw[hpf]
  try simp only[aQ]
  refine Ym (id:=1) (rest:=[]) [.wr 2 [] 0,.wr 3 [.o 3 none,.o 3 none] 0] [11,10] (fun nu2=>[zP 5 (nu2 0)]) (fun nu2=>[(mb,.cells #[.slice ba base.length cb,.slice la K.length lc] 85 (0,0)),(nu1 0,.cells #[.slice a1 c.when.length c1,nI c.place,.slice a2 c.ops.length c2] 28 (0,0)),(nu1 1,.cells #[nI 0,nI 0] 40 (0,0)),(nu2 0,.cells #[nI ((↑(comFault c).code:Int)),nI ((comFault c).at')] 40 (0,0))]) [] (fun nu2=>?_)
  refine JR_end (J_seq ?_)
  refine Zt [zR 0,.rd 1 [.o 3 none] 0 0,.rd 2 [] 0 7] [] [zB 14 false] [decide ((↑(comFault c).code:Int)>(0:Int))=false] ⟨by simp;omega,trivial⟩ ?_
  refine cF ?_
  refine J_skip (J_seq ?_)
  refine Zt ([zR 0,.rd 1 [.o 1 none] 0 0]++Rds 2 6++[.rd 6 [.o 0 none] 0 0,zR 7,.rd 8 [] 0 6]) [14] [zB 24 true] [((↑c.when.length:Int) != (↑base.length:Int))=true] ⟨by simp;omega,trivial⟩ ?_
  refine cTt ?_
  refine jS [(0,false),(1,false)] [] ?_
  refine Yc 26 #[nI 3] (some 25) fun w S hG=>?_
  refine(rBare (w:=w) (S:=S) (c:=3)).mono ?_
  rintro e2 w2 hR
  refine⟨_,_,_,hR,?_⟩
  try simp only[aQ]
  refine Ym (id:=5) (rest:=[]) [.wr 1 [.o 2 none,.o 2 none] 0] [25,24] (fun _=>[]) (fun _=>[(mb,.cells #[.slice ba base.length cb,.slice la K.length lc] 85 (0,0)),(nu1 0,.cells #[.slice a1 c.when.length c1,nI c.place,.slice a2 c.ops.length c2] 28 (0,0)),(nu1 1,.cells #[nI 3,nI (-1)] 40 (0,0)),(nu2 0,.cells #[nI ((↑(comFault c).code:Int)),nI ((comFault c).at')] 40 (0,0))]) [] (fun _=>?_)
  refine JR_end ?_
  refine Yr [[.o 2 none,.o 2 none]] (.agg #[nI 3,nI (-1)]) fun a w s=>?_
  exact .inl ⟨by decide,(s.hide 0 rfl).ret (by simp) [1,0] [] rfl rfl⟩
 have hwl2:(c.when.length:Int)=base.length:=by omega
 try simp only[aQ]
 refine Ym (id:=1) (rest:=[]) [.wr 2 [] 0,.wr 3 [.o 3 none,.o 3 none] 0] [11,10] (fun nu2=>[zP 5 (nu2 0)]) (fun nu2=>[(mb,.cells #[.slice ba base.length cb,.slice la K.length lc] 85 (0,0)),(nu1 0,.cells #[.slice a1 c.when.length c1,nI c.place,.slice a2 c.ops.length c2] 28 (0,0)),(nu1 1,.cells #[nI 0,nI 0] 40 (0,0)),(nu2 0,.cells #[nI ((↑(comFault c).code:Int)),nI ((comFault c).at')] 40 (0,0))]) [] (fun nu2=>?_)
 refine JR_end (J_seq ?_)
 refine Zt [zR 0,.rd 1 [.o 3 none] 0 0,.rd 2 [] 0 7] [] [zB 14 false] [decide ((↑(comFault c).code:Int)>(0:Int))=false] ⟨by simp;omega,trivial⟩ ?_
 refine cF ?_
 refine J_skip (J_seq ?_)
 refine Zt ([zR 0,.rd 1 [.o 1 none] 0 0]++Rds 2 6++[.rd 6 [.o 0 none] 0 0,zR 7,.rd 8 [] 0 7]) [14] [zB 24 false] [((↑c.when.length:Int) != (↑base.length:Int))=false] ⟨by simp;omega,trivial⟩ ?_
 refine cF ?_
 refine J_skip ?_
 refine jS [(0,true),(1,true),(2,true),(3,true),(4,true),(5,true),(6,false),(7,true)] [] ?_
 refine Ya (id:=6) (rest:=[(6,false),(7,true)]) ([zR 0,.rd 1 [.o 1 none] 0 0]++Rds 2 5++[.rd 5 [.o 0 none] 0 0]) [24] [zS 27 a1 c.when.length c1,zS 31 ba base.length cb] ?_
 refine Yc 76 #[.slice a1 c.when.length c1,.slice ba base.length cb] (some 32) fun w S hG=>?_
 refine(rIn (hG.at 0 rfl) (hG.at 2 rfl) hl1 hwl).mono ?_
 rintro e2 w2 hR
 refine⟨_,_,_,hR,?_⟩
 cases hin:inL c.when base with
 | true=>
  have hpf:rPutF base.length base K c=⟨9,-1⟩:=by rw[rPutF,if_neg (by simp[hv0]),if_neg (by simp[hwl]),if_pos hin]
  rw[hpf]
  try simp only[aQ]
  refine Ya (id:=6) (rest:=[]) [zR 7] [32,27,31] [zB 6 true] ?_
  refine JR_end (J_seq ?_)
  refine Zs [zR 0] [6] [zB 33 true] ?_
  refine cTt ?_
  refine jS [(0,false),(1,false)] [] ?_
  refine Yc 26 #[nI 9] (some 34) fun w S hG=>?_
  refine(rBare (w:=w) (S:=S) (c:=9)).mono ?_
  rintro e3 w3 hR
  refine⟨_,_,_,hR,?_⟩
  try simp only[aQ]
  refine Ym (id:=8) (rest:=[]) [.wr 1 [.o 2 none,.o 2 none] 0] [34,33] (fun _=>[]) (fun _=>[(mb,.cells #[.slice ba base.length cb,.slice la K.length lc] 85 (0,0)),(nu1 0,.cells #[.slice a1 c.when.length c1,nI c.place,.slice a2 c.ops.length c2] 28 (0,0)),(nu1 1,.cells #[nI 9,nI (-1)] 40 (0,0)),(nu2 0,.cells #[nI ((↑(comFault c).code:Int)),nI ((comFault c).at')] 40 (0,0))]) [] (fun _=>?_)
  refine JR_end ?_
  refine Yr [[.o 2 none,.o 2 none]] (.agg #[nI 9,nI (-1)]) fun a w s=>?_
  exact .inl ⟨by decide,(s.hide 0 rfl).ret (by simp) [1,0] [] rfl rfl⟩
 | false=>
  have hpf:rPutF base.length base K c=scanF (hasAt K c) c.ops.length 0:=by rw[rPutF,if_neg (by simp[hv0]),if_neg (by simp[hwl]),if_neg (by simp[hin])]
  rw[hpf]
  obtain⟨t,ht⟩:∃t,c.when[c.place.toNat]?=some t:=⟨_,List.getElem?_eq_getElem (by have:=hrc.p0;have:=hrc.p1;omega)⟩
  have hp0:=hrc.p0
  have hp1:=hrc.p1
  have htd:c.when.getD c.place.toNat 0=t:=by simp[List.getD_eq_getElem?_getD,ht]
  try simp only[aQ]
  refine Ya (id:=6) (rest:=[]) [zR 7] [32,27,31] [zB 6 false] ?_
  refine JR_end (J_seq ?_)
  refine Zs [zR 0] [6] [zB 33 false] ?_
  refine cF ?_
  refine J_skip (J_seq (J_seq ?_))
  refine J_hide 0 rfl ?_
  refine Nm [cAcc (.slice la K.length lc) 28 3 (List.map eCom K),cObj mb (.cells #[.slice ba base.length cb,.slice la K.length lc] 85 (0,0))] ?_
  refine Za [zR 0] [33] [zI 7 0] ?_
  refine J_block ?_
  refine J_loopx (fun i:Int=>[zP 0 mb,zP 3 (nu1 0),zP 4 (nu1 1),zP 5 (nu2 0),zI 7 i]) (fun i:Int=>[(nu1 0,.cells #[.slice a1 c.when.length c1,nI c.place,.slice a2 c.ops.length c2] 28 (0,0)),(nu1 1,.cells #[nI 0,nI 0] 40 (0,0)),(nu2 0,.cells #[nI ((↑(comFault c).code:Int)),nI ((comFault c).at')] 40 (0,0))]) (fun i:Int=>[cAcc (.slice la K.length lc) 28 3 (K.map eCom),cObj mb (.cells #[.slice ba base.length cb,.slice la K.length lc] 85 (0,0))]) (fun i:Int=>[(.slice a1 c.when.length c1,(dInts c.when)),(.slice a2 c.ops.length c2,(D.sl 7 (List.map eOp c.ops))),(.slice ba base.length cb,(dInts base))]) (fun i:Int=>(c.ops.length - i).toNat) (fun i:Int=>(0≤i∧i≤c.ops.length∧∀j:Nat,j<i.toNat→hasAt K c j=0)) 0 [0,3,4,5,7] [0,1,2] [0,1] [0,1,2] ?_ (by kernel_rfl) rfl rfl rfl ?_
  ·exact⟨by simp,by simp,by simp⟩
  rintro i ⟨hi0,hi,hex⟩
  refine J_seq ?_
  refine Zs [zR 0,zR 1,.rd 2 [.o 0 none] 0 0,zR 3,zR 4] [] [zB 39 (decide (i<(↑c.ops.length:Int)))] ?_
  refine cC (t:=decide (i<(↑c.ops.length:Int))) (fun hlt=>?_) (fun hlt=>?_)
  ·have hlt2:i<c.ops.length:=by simpa using hlt
   obtain⟨o,ho⟩:∃o,c.ops[i.toNat]?=some o:=⟨_,List.getElem?_eq_getElem (by omega)⟩
   have hod:(⟨c.place,t,o.no⟩:DotT)=dotOf c o:=by rw[dotOf,htd]
   refine J_read0 0 rfl c.place.toNat (map_at ht) (by kernel_rfl) (fun b1 off1 cs1 ty1 fz1 ha1 hrd1=>?_)
   cases ha1
   have hrd1_0:=rd0 (hrd1 0 _ rfl)
   refine J_read1 1 rfl i.toNat (map_at ho) (by kernel_rfl) (fun b2 off2 cs2 ty2 fz2 a2_0 c2_0 ha2 hrd2=>?_)
   cases ha2
   have hrd2_0:=rd0 (hrd2 0 _ rfl)
   have hrd2_1:=hrd2 1 _ rfl
   have hrd2_2:=hrd2 2 _ rfl
   have hrd2_3:=hrd2 3 _ rfl
   have hrd2_4:=hrd2 4 _ rfl
   have hrd2_5:=hrd2 5 _ rfl
   have hrd2_6:=hrd2 6 _ rfl
   try simp only[aQ]
   refine J_skip (J_seq (J_block ?_))
   refine jS [(0,true),(1,true),(2,true),(3,true),(4,true),(5,true),(6,true),(7,true),(8,true),(9,true),(10,true),(11,true),(12,true),(13,true),(14,true),(15,true),(16,false),(17,true)] [(16,[])] ?_
   refine Yp (id:=12) (rest:=[(16,false),(17,true)]) [zR 0,zR 1,.rd 2 [.o 0 none] 0 0,zR 3,.rd 4 [.o 0 none] 0 0,zR 5,.rd 6 [.o 0 none] 0 0,.rd 7 [] 0 2,.rd 8 [.r 0 (some (nI t))] 0 0,zR 9,.rd 10 [.o 0 none] 0 0,zR 11,.rd 12 [] 0 2,zR 13,.rd 14 [.r 1 (some (nI o.no))] 0 0,zR 15] [39] [zP 42 mb,zV 57 (.agg #[nI c.place,nI t,nI o.no])] [0≤c.place,c.place<(↑c.when.length:Int),cs1[off1+c.place.toNat*1]?=some (nI t),0≤i,i<(↑c.ops.length:Int),cs2[off2+i.toNat*7]?=some (nI o.no)] ⟨hp0,hp1,hrd1_0,hi0,hlt2,hrd2_0,trivial⟩ ?_
   refine JR_call [] [1,0] 77 #[.pointer (some (⟨mb,0,none⟩)),.agg #[.int .i64 c.place,.int .i64 t,.int .i64 o.no]] (some 58) (by kernel_rfl) (by kernel_rfl) (by decide) (fun w S M hP hG _=>?_)
   refine(rHas (d:=⟨c.place,t,o.no⟩) hP hKl hK).mono ?_
   rintro e3 w3 hR
   rw[hod]at hR
   refine⟨_,_,_,hR,?_⟩
   cases hh:hasL K (dotOf c o)with
   | true=>
    have hz:hasAt K c i.toNat=6:=by simp[hasAt,ho,hh]
    have hsc:scanF (hasAt K c) c.ops.length 0=⟨6,i⟩:=by
     rw[(scanF_from c.ops.length 0 i.toNat (Nat.zero_le _) fun j _ hj=>hex j hj).2 (by omega) (by omega),hz]
     congr 1
     omega
    rw[hsc]
    try simp only[aQ]
    refine Ya (id:=12) (rest:=[]) [zR 17] [58,42,57] [zB 8 true] ?_
    try simp only[aQ]
    refine JR_end ?_
    try simp only[aQ]
    refine J_seq ?_
    try simp only[aQ]
    refine Za [zR 0] [] [zB 59 true] ?_
    try simp only[aQ]
    refine cTt ?_
    try simp only[aQ]
    refine J_seq ?_
    try simp only[aQ]
    refine Zm [zR 0,zR 1,.wr 2 [.o 1 none,.o 1 none] 0] [(2,[1])] [59] (fun _=>[]) (fun _=>[(nu1 0,.cells #[.slice (sA b1 off1) c.when.length c1,nI c.place,.slice (sA b2 off2) c.ops.length c2] 28 (0,0)),(nu1 1,.cells #[nI 6,nI i] 40 (0,0)),(nu2 0,.cells #[nI ((↑(comFault c).code:Int)),nI ((comFault c).at')] 40 (0,0))]) (fun _=>?_)
    try simp only[aQ]
    refine Yr [[.o 1 none,.o 1 none]] (.agg #[nI 6,nI i]) fun a w s=>?_
    exact .inl ⟨by decide,s.ret (by simp) [0,1] [] rfl rfl⟩
   | false=>
    have hz:hasAt K c i.toNat=0:=by simp[hasAt,ho,hh]
    try simp only[aQ]
    refine Ya (id:=12) (rest:=[]) [zR 17] [58,42,57] [zB 8 false] ?_
    try simp only[aQ]
    refine JR_end ?_
    try simp only[aQ]
    refine J_seq ?_
    try simp only[aQ]
    refine Za [zR 0] [] [zB 59 false] ?_
    try simp only[aQ]
    refine cF ?_
    try simp only[aQ]
    refine J_skip ?_
    try simp only[aQ]
    refine J_eb ?_
    try simp only[aQ]
    refine Zp [zR 0,.rd 1 [] 0 1,zR 2] [59] [zI 7 (i+1)] [IntKind.i64.wrap (i+1)=i+1] ⟨wrap_i64 (by omega) (by omega),trivial⟩ ?_
    try simp only[aQ]
    refine J_backx (i+1) [0,3,4,5,7] [0,1,2] [1,0] [0,1,2] ?_ ?_ (by kernel_rfl) rfl rfl rfl
    ·refine⟨by omega,by omega,fun j hj=>?_⟩
     by_cases hji:j=i.toNat
     ·rw[hji]
      exact hz
     ·exact hex j (by omega)
    ·omega
  ·have hsc:(scanF (hasAt K c) c.ops.length 0).code=0:=by
    rw[(scanF_from c.ops.length 0 c.ops.length (Nat.zero_le _) fun j _ hj=>hex j (by simp at hlt;omega)).1 (by omega)]
   refine J_exit rfl ?_
   refine J_seq ?_
   refine J_show 1 rfl ?_
   refine Nm [cAcc (.slice la K.length lc) 28 3 (List.map eCom K)] ?_
   refine jT [(0,true),(1,true),(2,true),(3,true),(4,true),(5,false),(6,false),(7,true)] [(6,[])] ?_
   refine Ym (id:=15) (rest:=[(6,false),(7,true)]) (Rds 0 3++[.rd 3 [.o 3 none] 0 0,.rd 4 (hnO 0 3) 0 0,.wr 5 [] 0]) [39,3,7] (fun nu3=>[zS 65 la K.length lc,zS 67 (sA (nu3 0) 0) 1 1]) (fun nu3=>[(nu1 0,.cells #[.slice a1 c.when.length c1,nI c.place,.slice a2 c.ops.length c2] 28 (0,0)),(nu1 1,.cells #[nI 0,nI 0] 40 (0,0)),(nu2 0,.cells #[nI ((↑(comFault c).code:Int)),nI ((comFault c).at')] 40 (0,0)),(mb,.cells #[.slice ba base.length cb,.slice la K.length lc] 85 (0,0)),(nu3 0,.cells #[.slice a1 c.when.length c1,nI c.place,.slice a2 c.ops.length c2] 28 (0,0))]) [(6,[])] (fun nu3=>?_)
   refine JR_appm 0 43 28 3 56 (.agg #[.slice none 0 0,.int .i64 0,.slice none 0 0]) (a0:=la) (len:=K.length) (cap0:=lc) (ax:=(some (⟨nu3 0,0,none⟩))) (m:=1) (c:=1) (dst:=(some 68)) [c] (by kernel_rfl) (by kernel_rfl) (by kernel_rfl) (by kernel_rfl) rfl (by decide) rfl (fun _ _ _ s=>src_one s 4 rfl rfl ⟨.inr (.inl (List.mem_of_getElem? (i:=0) rfl)),⟨.inl ⟨rfl,rfl⟩,⟨.inr (.inl (List.mem_of_getElem? (i:=1) rfl)),trivial⟩⟩⟩) (by simp only[maxLen];omega) (by omega) (fun av1 cv1=>?_)
   try simp only[aQ]
   refine Ya (id:=15) (rest:=[]) [zR 7] [68,65,67] [zS 9 av1 (K.length+1) cv1] ?_
   try simp only[aQ]
   refine JR_end ?_
   try simp only[aQ]
   refine J_seq ?_
   try simp only[aQ]
   refine Zm (Rds 0 4++[.wr 4 [.o 3 none] 0]) [(4,[3])] [9,0] (fun _=>[]) (fun _=>[(nu1 0,.cells #[.slice a1 c.when.length c1,nI c.place,.slice a2 c.ops.length c2] 28 (0,0)),(nu1 1,.cells #[nI 0,nI 0] 40 (0,0)),(nu2 0,.cells #[nI ((↑(comFault c).code:Int)),nI ((comFault c).at')] 40 (0,0)),(mb,.cells #[.slice ba base.length cb,.slice av1 (K.length+1) cv1] 85 (0,0)),(nu3 0,.cells #[.slice a1 c.when.length c1,nI c.place,.slice a2 c.ops.length c2] 28 (0,0))]) (fun _=>?_)
   try simp only[aQ]
   refine J_seq ?_
   try simp only[aQ]
   refine Zm [.rd 0 [.o 2 none,.o 2 none] 0 0,.wr 1 [.o 1 none,.o 1 none] 0] [(1,[1])] [5] (fun _=>[]) (fun _=>[(nu1 0,.cells #[.slice a1 c.when.length c1,nI c.place,.slice a2 c.ops.length c2] 28 (0,0)),(nu1 1,.cells #[nI ((↑(comFault c).code:Int)),nI ((comFault c).at')] 40 (0,0)),(nu2 0,.cells #[nI ((↑(comFault c).code:Int)),nI ((comFault c).at')] 40 (0,0)),(mb,.cells #[.slice ba base.length cb,.slice av1 (K.length+1) cv1] 85 (0,0)),(nu3 0,.cells #[.slice a1 c.when.length c1,nI c.place,.slice a2 c.ops.length c2] 28 (0,0))]) (fun _=>?_)
   try simp only[aQ]
   refine Yr [[.o 1 none,.o 1 none]] (.agg #[nI ((↑(comFault c).code:Int)),nI ((comFault c).at')]) fun a w s=>?_
   exact .inr ⟨hsc,_,_,_,(s.hide 3 rfl).ret (by simp) [1,0] [] rfl rfl⟩
def atE (p:Nat) (base:List Int) (key:ByteArray) (at':List Int):Nat:=
 if nameOk key=false then 4 else if vecErr at'≠0 then vecErr at' else if at'.length≠p then 3 else if inL base at'=false then 9 else 0
set_option maxHeartbeats 4000000 in
theorem rAtErr {w:World} {S:Nat→Prop} {M:List Nat} {mb p:Nat} {ba a1:Option Addr} {nb cb n1 c1:Nat} {vl:Value} {key:ByteArray} {base at':List Int} (ov:vl.oneCell'=true) (hP:Pre w S M [cObj mb (.cells #[.slice ba nb cb,vl] 85 (0,0))])
  (hb:Rep w S (.slice ba nb cb) (dInts base)) (hbl:base.length=p) (hp6:p≤6) (h1:Rep w S (.slice a1 n1 c1) (dInts at')) (hl1:at'.length≤1000000) :
  Calls Tryz.prog 40 #[.pointer (some ⟨mb,0,none⟩),.string key,.slice a1 n1 c1] w fun e w'=>Ret M w S w' e (.int .i64 (atE p base key at')) [cObj mb (.cells #[.slice ba nb cb,vl] 85 (0,0))] []:=by
 obtain rfl:=rep_ints_len h1
 obtain rfl:=rep_ints_len hb
 subst hbl
 refine enG Tryz.func40 bd40 (args:=[.pointer (some ⟨mb,0,none⟩),.string key,.slice a1 at'.length c1]) (S:=S) (G:=[(_,dInts at'),(_,dInts base)]) (by kernel_rfl) hP (.cons h1 (.cons hb (.nil _ _))) ?_
 refine J_show 0 rfl ?_
 refine Zs [zR 0] [] [zI 6 0] ?_
 refine jS [(0,true),(1,false),(2,true)] [] ?_
 refine Ya (id:=1) (rest:=[(1,false),(2,true)]) [zR 0] [1] [zV 9 (.string key)] ?_
 refine Yc 25 #[.string key] (some 10) fun w S hG=>?_
 refine(isName (w:=w) (S:=S) (s0:=key)).mono ?_
 rintro e1 w1 hR
 refine⟨_,_,_,hR,?_⟩
 cases hnm:nameOk key with
 | false=>
  have hae:atE base.length base key at'=4:=by rw[atE,if_pos hnm]
  rw[hae]
  try simp only[aQ]
  refine Ya (id:=1) (rest:=[]) [zR 2] [10,9] [zB 7 false] ?_
  refine JR_end (J_seq ?_)
  refine Zs [zR 0,zR 1] [7] [zB 12 true] ?_
  refine cTt ?_
  refine Zs [zR 0] [12] [zI 6 4] ?_
  refine Yr [[]] (nI 4) fun a w s=>?_
  exact(s.hide 0 rfl).ret (by simp) [0] [] rfl rfl
 | true=>
 try simp only[aQ]
 refine Ya (id:=1) (rest:=[]) [zR 2] [10,9] [zB 7 true] ?_
 refine JR_end (J_seq ?_)
 refine Zs [zR 0,zR 1] [7] [zB 12 false] ?_
 refine cF ?_
 refine J_skip ?_
 refine jS [(0,true),(1,false),(2,true)] [] ?_
 refine Ya (id:=4) (rest:=[(1,false),(2,true)]) [zR 0] [12] [zS 13 a1 at'.length c1] ?_
 refine Yc 43 #[.slice a1 at'.length c1] (some 14) fun w S hG=>?_
 refine(rVecErr (hG.at 0 rfl) hl1).mono ?_
 rintro e2 w2 hR
 refine⟨_,_,_,hR,?_⟩
 by_cases hv0:vecErr at'=0
 case neg=>
  have hae:atE base.length base key at'=vecErr at':=by rw[atE,if_neg (by simp[hnm]),if_pos hv0]
  rw[hae]
  have hv1:¬((vecErr at':Nat):Int)=0:=by omega
  try simp only[aQ]
  refine Ya (id:=4) (rest:=[]) [zR 2] [14,13] [zI 8 ((↑(vecErr at'):Int))] ?_
  refine JR_end (J_seq ?_)
  refine Zt [zR 0,.rd 1 [] 0 7,zR 2,.rd 3 [] 1 0,.rd 4 [] 1 0,.rd 5 [] 1 0,.rd 6 [] 1 0,.rd 7 [] 1 0,.rd 8 [] 1 0,.rd 9 [] 1 0,.rd 10 [] 1 0,zR 11] [] [zB 26 false] [((↑(vecErr at'):Int)==(0:Int))=false] ⟨by simp;omega,trivial⟩ ?_
  refine cF ?_
  refine J_skip (J_seq ?_)
  refine Zt [zR 0,.rd 1 [] 0 7,zR 2,.rd 3 [] 1 0,.rd 4 [] 1 0,.rd 5 [] 1 0,.rd 6 [] 1 0,.rd 7 [] 1 0,.wr 8 [] 1,.rd 9 [] 1 0,zR 10] [26,0,2] [zB 37 false] [((↑(vecErr at'):Int)==(0:Int))=false] ⟨by simp;omega,trivial⟩ ?_
  refine cF ?_
  refine J_skip ?_
  refine Zs [zR 0,zR 1] [37,8] [zI 6 ((↑(vecErr at'):Int))] ?_
  refine Yr [[]] (nI ((↑(vecErr at'):Int))) fun a w s=>?_
  exact(s.hide 0 rfl).ret (by simp) [0] [] rfl rfl
 rw[hv0]
 by_cases hal:at'.length=base.length
 case neg=>
  have hae:atE base.length base key at'=3:=by rw[atE,if_neg (by simp[hnm]),if_neg (by simp[hv0]),if_pos hal]
  rw[hae]
  have hal2:¬(at'.length:Int)=base.length:=by omega
  try simp only[aQ]
  refine Ya (id:=4) (rest:=[]) [zR 2] [14,13] [zI 8 0] ?_
  refine JR_end (J_seq ?_)
  refine Zt (Rds 0 8++[.rd 8 [.o 0 none] 0 0,zR 9,.rd 10 [] 0 6,zR 11]) [] [zB 26 true] [((↑at'.length:Int) != (↑base.length:Int))=true] ⟨by simp;omega,trivial⟩ ?_
  refine cTt ?_
  refine Za [zR 0] [26] [zI 8 3] ?_
  refine J_seq ?_
  refine Zs (Rds 0 3++[.rd 3 [] 1 0,.rd 4 [] 1 0,.rd 5 [] 1 0,.rd 6 [] 1 0,.rd 7 [] 1 0,.wr 8 [] 1,.rd 9 [] 1 0,zR 10]) [0,2] [zB 37 false] ?_
  refine cF ?_
  refine J_skip ?_
  refine Zs [zR 0,zR 1] [37,8] [zI 6 3] ?_
  refine Yr [[]] (nI 3) fun a w s=>?_
  exact(s.hide 0 rfl).ret (by simp) [0] [] rfl rfl
 have hal2:(at'.length:Int)=base.length:=by omega
 try simp only[aQ]
 refine Ya (id:=4) (rest:=[]) [zR 2] [14,13] [zI 8 0] ?_
 refine JR_end (J_seq ?_)
 refine Zt (Rds 0 8++[.rd 8 [.o 0 none] 0 0,zR 9,.rd 10 [] 0 7,zR 11]) [] [zB 26 false] [((↑at'.length:Int) != (↑base.length:Int))=false] ⟨by simp;omega,trivial⟩ ?_
 refine cF ?_
 refine J_skip (J_seq ?_)
 refine jS [(0,true),(1,true),(2,true),(3,true),(4,true),(5,true),(6,true),(7,true),(8,false),(9,true),(10,true)] [] ?_
 refine Ya (id:=7) (rest:=[(8,false),(9,true),(10,true)]) (Rds 0 6++[.rd 6 [.o 0 none] 0 0,zR 7]) [26,0,2] [zB 29 true,zS 33 ba base.length cb,zS 34 a1 at'.length c1] ?_
 refine Yc 76 #[.slice ba base.length cb,.slice a1 at'.length c1] (some 35) fun w S hG=>?_
 refine(rIn (hG.at 1 rfl) (hG.at 0 rfl) (by omega) hal.symm).mono ?_
 rintro e3 w3 hR
 refine⟨_,_,_,hR,?_⟩
 cases hin:inL base at' with
 | false=>
  have hae:atE base.length base key at'=9:=by rw[atE,if_neg (by simp[hnm]),if_neg (by simp[hv0]),if_neg (by simp[hal]),if_pos hin]
  rw[hae]
  try simp only[aQ]
  refine Ya (id:=7) (rest:=[]) [zR 9,zR 10] [35,29,33,34] [zB 37 true] ?_
  refine JR_end ?_
  refine cTt ?_
  refine Za [zR 0] [37] [zI 8 9] ?_
  refine Zs [zR 0,zR 1] [8] [zI 6 9] ?_
  refine Yr [[]] (nI 9) fun a w s=>?_
  exact(s.hide 0 rfl).ret (by simp) [0] [] rfl rfl
 | true=>
  have hae:atE base.length base key at'=0:=by rw[atE,if_neg (by simp[hnm]),if_neg (by simp[hv0]),if_neg (by simp[hal]),if_neg (by simp[hin])]
  rw[hae]
  try simp only[aQ]
  refine Ya (id:=7) (rest:=[]) [zR 9,zR 10] [35,29,33,34] [zB 37 false] ?_
  refine JR_end ?_
  refine cF ?_
  refine J_skip ?_
  refine Zs [zR 0,zR 1] [37,8] [] ?_
  refine Yr [[]] (nI 0) fun a w s=>?_
  exact(s.hide 0 rfl).ret (by simp) [0] [] rfl rfl
end Go.Proofs.YtpjkiomccpjboaaGreatDoor
end
