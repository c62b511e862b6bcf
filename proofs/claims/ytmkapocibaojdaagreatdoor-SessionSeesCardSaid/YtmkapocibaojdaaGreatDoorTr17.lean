/- Part 17 of the texts of a claim: LaidC Open OpenC. -/
import Derived.Test.YtmkapocibaojdaaGreatDoorRows
import Derived.WalkKit
import Derived.ProofKit
import Derived.LaidHandle
import Derived.Test.YtmkapocibaojdaaGreatDoorTr16
open Array renaming getD_eq_getD_getElem? → dB
open List renaming getElem?_append → kQ, getElem?_cons_zero → aV, getElem?_drop → cq, getElem?_eq_getElem → ak, getElem?_eq_some_iff → ai, getElem?_map → aF, getElem?_of_mem → aJ, getElem?_take → cL, mem_cons_of_mem → bk, mem_cons_self → bl, mem_filter → aP, mem_map → aB, mem_range → dX, mem_singleton → ay, range → bD
open Nat renaming sub_self → ec, zero_add → aK
open Option renaming map_eq_some_iff → aI
open Option.some renaming inj → dG, injEq → az
section
namespace Go.Proofs.YtmkapocibaojdaaGreatDoor
open Go Go.Sx Go.ChangeShapes Go.WideShapes Go.ChangeAt Go.RowKit
theorem Lw:"*" ++ "errors.errorString" = "*errors.errorString":=by decide
theorem rowE (u:TypeId) (h:Tryz.prog.typeName? 3 u=some "*errors.errorString"):u=390:=
 typeName_ptr_named (nm:="errors.errorString") (by rw[Lw];kernel_rfl) (by kernel_rfl) (by decide) u (by rw[Lw];exact h)
set_option maxHeartbeats 4000000 in
theorem QC {W:World} (h:handlesMet Tryz.prog [("errors.errorType",Rows.laid_errors_errorType)] W):W.var? Tryz.prog "errors.errorType" = some #[.iface 330 (.agg #[.pointer (some ⟨13,26,none⟩)])]:=by
 obtain⟨name,u,ty,e1,e2,e3,e4,e5⟩:=h _ (ay.2 rfl)
 have en:name=[101,114,114,111,114]:=(dG e1).symm
 subst en
 obtain rfl:=dG ((show(Tryz.prog.cutTypes.find? (·.1 == "internal/reflectlite.rtype")).map (·.2)=some 330 by kernel_rfl).symm.trans e2)
 have hm:ty∈(bD Tryz.prog.types.size).filter fun t=>Tryz.prog.rowNamed t [101,114,114,111,114]:=aP.2 ⟨dX.2 e3,e4⟩
 rw[show((bD Tryz.prog.types.size).filter fun t=>Tryz.prog.rowNamed t [101,114,114,111,114])=[26]by kernel_rfl]at hm
 obtain rfl:=ay.1 hm
 have hh:typeHandle Tryz.prog 26=.pointer (some ⟨13,26,none⟩):=by kernel_rfl
 rw[hh]at e5
 exact e5
abbrev MF:List (String×List UInt8):=[("causeway/api.ErrText",[99,97,117,115,101,119,97,121,58,32,116,101,120,116]),("causeway/api.ErrBound",[99,97,117,115,101,119,97,121,58,32,98,111,117,110,100]),("causeway/api.ErrShape",[99,97,117,115,101,119,97,121,58,32,115,104,97,112,101]),("causeway/api.ErrName",[99,97,117,115,101,119,97,121,58,32,110,97,109,101]),("causeway/api.ErrNone",[99,97,117,115,101,119,97,121,58,32,110,111,110,101]),("causeway/api.ErrExist",[99,97,117,115,101,119,97,121,58,32,101,120,105,115,116]),("causeway/api.ErrFull",[99,97,117,115,101,119,97,121,58,32,102,117,108,108]),("causeway/api.ErrSum",[99,97,117,115,101,119,97,121,58,32,115,117,109]),("causeway/api.ErrOld",[99,97,117,115,101,119,97,121,58,32,111,108,100]),("causeway/api.ErrHeld",[99,97,117,115,101,119,97,121,58,32,104,101,108,100]),("causeway/api.ErrWait",[99,97,117,115,101,119,97,121,58,32,119,97,105,116]),("causeway/api.ErrKind",[99,97,117,115,101,119,97,121,58,32,107,105,110,100])]
set_option maxHeartbeats 4000000 in
theorem QV {W:World} (h:laidMet Tryz.prog (MF.map fun x=>(x.1,DataW.iface "*errors.errorString" (.ptr (.agg [.lit (.string x.2)])))) W) (hh:handlesMet Tryz.prog [("errors.errorType",Rows.laid_errors_errorType)] W) :
  ∃er eb,cm W (fun _=>True) .nilIface (dC er eb)∧RY er:=by
 obtain⟨er,eb,hv,hI⟩:=KQ Tryz.underlying26 rowE Tryz.underlying390 Tryz.underlying411 rfl rfl Tryz.underlying9 (by kernel_rfl) (by kernel_rfl) MF h (by kernel_rfl)
 refine⟨er,eb,.all ?_,hI⟩
 show gl W (fun _=>True) (yE er eb)
 unfold yE
 exact(.cons (kX (g:=7) (by kernel_rfl) (hv 0 _ rfl).1 rfl) (.cons (kX (g:=0) (by kernel_rfl) (hv 1 _ rfl).1 rfl) (.cons (kX (g:=1) (by kernel_rfl) (hv 2 _ rfl).1 rfl) (.cons (kX (g:=8) (by kernel_rfl) (hv 3 _ rfl).1 rfl) (.cons (kX (g:=4) (by kernel_rfl) (hv 4 _ rfl).1 rfl) (.cons (kX (g:=9) (by kernel_rfl) (hv 5 _ rfl).1 rfl) (.cons (kX (g:=10) (by kernel_rfl) (hv 6 _ rfl).1 rfl) (.cons (kX (g:=6) (by kernel_rfl) (hv 7 _ rfl).1 rfl) (.cons (kX (g:=5) (by kernel_rfl) (hv 8 _ rfl).1 rfl) (.cons (kX (g:=2) (by kernel_rfl) (hv 9 _ rfl).1 rfl) (.cons (kX (g:=3) (by kernel_rfl) (hv 10 _ rfl).1 rfl) (.cons (kX (g:=11) (by kernel_rfl) (hv 11 _ rfl).1 rfl)  (.cons (kX (g:=12) (by kernel_rfl) (QC hh) rfl) (.cons (.obj (hv 0 _ rfl).2 trivial) (.cons (.obj (hv 1 _ rfl).2 trivial) (.cons (.obj (hv 2 _ rfl).2 trivial) (.cons (.obj (hv 3 _ rfl).2 trivial) (.cons (.obj (hv 4 _ rfl).2 trivial) (.cons (.obj (hv 5 _ rfl).2 trivial) (.cons (.obj (hv 6 _ rfl).2 trivial) (.cons (.obj (hv 7 _ rfl).2 trivial) (.cons (.obj (hv 8 _ rfl).2 trivial) (.cons (.obj (hv 9 _ rfl).2 trivial) (.cons (.obj (hv 10 _ rfl).2 trivial) (.cons (.obj (hv 11 _ rfl).2 trivial) (.nil _ _))))))))))))))))))))))))))
end Go.Proofs.YtmkapocibaojdaaGreatDoor
end
section
namespace Go.Sx
open Go Go.ChangeShapes Go.WideShapes
theorem wo {α:Type} {p:Nat→α→Prop}:∀(n:Nat),(∀i,i<n→∃x,p i x)→∃l:List α,l.length=n∧∀(i:Nat) x,l[i]?=some x→p i x
 | 0,_=>⟨[],rfl,by simp⟩
 | n+1,h=>by
  obtain⟨l,hl,hp⟩:=wo n fun i hi=>h i (by omega)
  obtain⟨x,hx⟩:=h n (by omega)
  refine⟨l++[x],by simp[hl],fun i y hi=>?_⟩
  rw[kQ]at hi
  split at hi
  ·exact hp i y hi
  ·rename_i hge
   have hi2:=(ai.1 hi).1
   have e:i=n:=by simp at hi2;omega
   subst e
   rw[hl,ec,aV]at hi
   cases hi
   exact hx
set_option maxHeartbeats 4000000 in
theorem DW {w:World} {base n:Nat} {a:Addr} {cs:List Value} (h:w.cells? base a n=some cs):cs.length=n∧∀i,i<n→w.cell? (a.add i)=cs[i]?:=by
 unfold World.cells? at h
 split at h
 ·exact⟨by simpa using mapM_some_length h,fun i hi=>mapM_some_get h i i (by simp[hi])⟩
 ·cases h
structure oL (P:Program) (W:World) (t:TypeId) (k:Nat) {α:Type} (E:α→List D) (ok:α→Prop):Prop where
 cells:P.cellsOf t=k
 op:∀{H:Type} {enc:TypeId×Value→H} {fuel:Nat} {cs:List Value} {x:DataW H×List MemPlace},DataW.trod enc P W 0 (fun _=>true) true fuel t cs=some x →
  ∃a,ok a∧(E a).length=k∧cs.length=k∧∀(j:Nat) d,(E a)[j]?=some d→∃u,cs[j]?=some u∧cm W (fun _=>True) u d
structure vW (P:Program) (W:World) (fs:List Field) (off k:Nat) {α:Type} (E:α→List D) (ok:α→Prop):Prop where
 op:∀{H:Type} {enc:TypeId×Value→H} {n:Nat} {cs:List Value},(∀f∈fs,∃x,DataW.trod enc P W 0 (fun _=>true) true n f.type ((cs.drop f.offset).take (P.cellsOf f.type))=some x) →
  ∃a,ok a∧(E a).length=k∧∀(j:Nat) d,(E a)[j]?=some d→∃u,cs[off+j]?=some u∧cm W (fun _=>True) u d
abbrev XR (z:Int):Prop:=-9223372036854775808≤z∧z≤9223372036854775807
section
variable {P:Program} {W:World} {t:TypeId} {k:Nat} {α β:Type} {E:α→List D} {ok:α→Prop}
theorem one_cell {x:Value} {d:D} (h:cm W (fun _=>True) x d):∀(j:Nat) d',([d]:List D)[j]?=some d'→∃u,([x]:List Value)[j]?=some u∧cm W (fun _=>True) u d':=fun j d' hj=>by
 match j,hj with
 | 0,hj=>
  simp only[aV,az]at hj
  subst hj
  exact⟨x,rfl,h⟩
 | j+1,hj=>simp at hj
theorem oL.int (ht:P.underlying t=some (.int .i64)) (hc:P.cellsOf t=1):oL P W t 1 (fun z:Int=>[dI z]) XR:=⟨hc,fun h=>by
 obtain⟨n,rfl,_,hw⟩:=DataW.trod_int ht h
 refine⟨n,?_,rfl,rfl,one_cell (.v rfl)⟩
 simp[Lit.wf,IntKind.min,IntKind.max,IntKind.signed,IntKind.bits]at hw
 exact hw⟩
theorem oL.bool (ht:P.underlying t=some .bool) (hc:P.cellsOf t=1):oL P W t 1 (fun z:Bool=>[.v (.bool z)]) (fun _=>True):=⟨hc,fun h=>by
 obtain⟨n,rfl,_⟩:=DataW.trod_bool ht h
 exact⟨n,trivial,rfl,rfl,one_cell (.v rfl)⟩⟩
theorem oL.map {β:Type} {E':β→List D} {ok':β→Prop} (h:oL P W t k E ok) (g:α→β) (hE:∀a,E' (g a)=E a) (hok:∀a,ok a→ok' (g a)):oL P W t k E' ok':=⟨h.cells,fun hx=>by
 obtain⟨a,h1,h2,h3,h4⟩:=h.op hx
 exact⟨g a,hok a h1,by rw[hE];exact h2,h3,fun j d hj=>h4 j d (by rw[←hE];exact hj)⟩⟩
theorem oL.slice {e:TypeId} (h:oL P W e k E ok) (ht:P.underlying t=some (.slice e)) (hc:P.cellsOf t=1) (hk:0<k):oL P W t 1 (fun l:List α=>[.sl k (l.map E)]) (fun l=>(∀x∈l,ok x)∧l.length≤maxLen):=⟨hc,fun hx=>by
 rcases DataW.trod_slice ht hx with ⟨rfl,_⟩|⟨a,len,cap,elems,rest,n,_,rfl,_,_,hlc,X7,hel,hat,_⟩
 ·exact⟨[],⟨by simp,by simp⟩,rfl,rfl,one_cell .nil⟩
 ·rw[h.cells]at hat
  obtain⟨l,hl,hp⟩:=wo (α:=α) (p:=fun i x=>ok x∧(E x).length=k∧∃cs:List Value,cs.length=k∧(∀j,j<k→W.cell? ((a.add (i*k)).add j)=cs[j]?)∧∀(j:Nat) d,(E x)[j]?=some d→∃u,cs[j]?=some u∧cm W (fun _=>True) u d) len fun i hi=>by
   have h1:=hat i hi
   rw[ak (by omega)]at h1
   obtain⟨cs,h2,h3⟩:=Option.bind_eq_some_iff.1 h1
   obtain⟨x,h4,h5,h6,h7⟩:=h.op h3
   obtain⟨h8,h9⟩:=DW h2
   exact⟨x,h4,h5,cs,h6,h9,h7⟩
  subst hl
  refine⟨l,⟨fun x hx=>?_,by omega⟩,rfl,rfl,one_cell ?_⟩
  ·obtain⟨i,hi⟩:=aJ hx
   exact(hp i x hi).1
  ·cases hne:l with
   | nil=>exact .nil
   | cons x0 l0=>
    rw[←hne]
    have hpos:0<l.length:=by rw[hne];simp
    obtain⟨_,_,V3,zb,GH,_⟩:=hp 0 l[0] (ak hpos)
    have e0:=GH 0 hk
    rw[ak (by omega)]at e0
    obtain⟨ar,ty,fz,hb,hs,_⟩:=rQ e0
    have ea:∀z:Addr,z.add 0=z:=vT
    rw[Nat.zero_mul,ea,ea]at hb hs
    obtain⟨b,off,sp⟩:=a
    simp only at hb hs
    subst hs
    have hcell:∀(i:Nat) x,l[i]?=some x→∀j,j<k→∃u,ar[off+(i*k+j)]?=some u∧∀d,(E x)[j]?=some d→cm W (fun _=>True) u d:=fun i x hi j hj=>by
     obtain⟨_,h5,cs,h6,h7,h8⟩:=hp i x hi
     have h9:=h7 j hj
     rw[rU,rU,ak (by omega)]at h9
     obtain⟨Yk,ty',XC,hb',_,hv⟩:=rQ h9
     simp only at hb' hv
     rw[hb]at hb'
     cases hb'
     refine⟨cs[j],by rw[←Nat.add_assoc];exact hv,fun d hd=>?_⟩
     obtain⟨u,hu,hr⟩:=h8 j d hd
     rw[ak (by omega)]at hu
     cases hu
     exact hr
    have hlen:(l.map E).length=l.length:=by simp
    have:=cm.sl (w:=W) (S:=fun _=>True) (off:=off) (cap:=cap) (k:=k) (rows:=l.map E) (fun i j=>ar.getD (off+(i*k+j)) undef) hb trivial (by omega) hk (fun row hr=>?_) (fun i j hi hj=>?_) (fun i j row d hi hj=>?_)
    ·rwa[hlen]at this
    ·obtain⟨x,hx,rfl⟩:=aB.1 hr
     obtain⟨i,hi⟩:=aJ hx
     exact(hp i x hi).2.1
    ·rw[hlen]at hi
     obtain⟨u,hu,_⟩:=hcell i l[i] (ak hi) j hj
     rw[hu,dB,hu]
     rfl
    ·rw[aF]at hi
     obtain⟨x,hx,rfl⟩:=aI.1 hi
     have EC:j<k:=by rw[←(hp i x hx).2.1];exact(ai.1 hj).1
     obtain⟨u,hu,hr⟩:=hcell i x hx j EC
     rw[dB,hu]
     exact hr d hj⟩
theorem vW.nil {off:Nat}:vW P W [] off 0 (fun _:Unit=>[]) (fun _=>True):=⟨fun _=>⟨(),trivial,rfl,by simp⟩⟩
theorem vW.cons {f:Field} {fs:List Field} {off k2:Nat} {E2:β→List D} {Vo:β→Prop} (h:oL P W f.type k E ok) (hf:f.offset=off) (h2:vW P W fs (off+k) k2 E2 Vo):vW P W (f::fs) off (k+k2) (fun x:α×β=>E x.1++E2 x.2) (fun x=>ok x.1∧Vo x.2):=⟨fun{H enc n cs} hx=>by
 obtain⟨x,h3⟩:=hx f (bl ..)
 rw[hf,h.cells]at h3
 obtain⟨a,h4,h5,h6,h7⟩:=h.op h3
 obtain⟨b,h8,h9,h10⟩:=h2.op fun g hg=>hx g (bk _ hg)
 refine⟨(a,b),⟨h4,h8⟩,by simp[h5,h9],fun j d hj=>?_⟩
 simp only[kQ]at hj
 split at hj
 ·rename_i hlt
  obtain⟨u,hu,hr⟩:=h7 j d hj
  rw[cL,if_pos (by omega),cq]at hu
  exact⟨u,hu,hr⟩
 ·rename_i hge
  rw[h5]at hj hge
  obtain⟨u,hu,hr⟩:=h10 _ d hj
  refine⟨u,?_,hr⟩
  rw[show off+j=off+k+(j - k)by omega]
  exact hu⟩
theorem oL.struct {fs:Array Field} (ht:P.underlying t=some (.struct fs)) (hc:P.cellsOf t=k) (h:vW P W fs.toList 0 k E ok):oL P W t k E ok:=⟨hc,fun hx=>by
 obtain⟨xs,n,rfl,_,hl,Ez,hat⟩:=DataW.trod_struct ht hx
 obtain⟨a,h1,h2,h3⟩:=h.op fun f hf=>by
  obtain⟨i,hi⟩:=aJ hf
  have vM:=(ai.1 hi).1
  have:=hat i f (by simpa using hi)
  rw[ak (by simp at vM;omega)]at this
  exact⟨_,this⟩
 exact⟨a,h1,h2,by rw[hl,hc],fun j d hj=>by
  obtain⟨u,hu,hr⟩:=h3 j d hj
  exact⟨u,by rw[aK]at hu;exact hu,hr⟩⟩⟩
end
end Go.Sx
end
section
namespace Go.Proofs.YtmkapocibaojdaaGreatDoor
open Go Go.Sx Go.ChangeShapes Go.WideShapes Go.RowKit
set_option maxHeartbeats 4000000 in
theorem DZ {w w':World} (h:Fr [] { w with drawn:=0 } w'):Below w.heap.size w w':=by
 have b:=h.below
 exact⟨b.os,b.tape,b.output,b.size,b.block⟩
theorem oL.agg {P:Program} {W:World} {t:TypeId} {k:Nat} {α:Type} {E:α→List D} {ok:α→Prop} {H:Type} {enc:TypeId×Value→H} {fs:Array Field} {base:Nat} {v:Value} {d:DataW H} {ps:List MemPlace} (h:oL P W t k E ok) (ht:P.underlying t=some (.struct fs)) (hv:Value.okWide P W .any base t v)
  (hx:DataW.Trod enc P W 0 (fun _=>true) true t v d ps):∃(cs:List Value) (a:α),v=.agg ⟨cs⟩∧cs.length=k∧ok a∧∀(j:Nat) d,(E a)[j]?=some d→∃u,cs[j]?=some u∧cm W (fun _=>True) u d:=by
 obtain⟨cs,rfl,_⟩:=okWide_struct ht hv
 obtain⟨fuel,hf⟩:=hx
 obtain⟨a,h1,_,h2,h3⟩:=h.op hf
 refine⟨cs.toList,a,rfl,?_,h1,?_⟩
 ·simpa [Value.cells]using h2
 ·intro j d hj
  obtain⟨u,hu,hr⟩:=h3 j d hj
  exact⟨u,by simpa [Value.cells]using hu,hr⟩
end Go.Proofs.YtmkapocibaojdaaGreatDoor
end
