/- Part 3 of the texts of a claim: Tx8 Tx10 Tx11 Tx12 Tx13 Tx14 Dat MsgT. -/
import Derived.Maps.AppendAt
import Derived.MapKept
import Derived.Laws.CopyRow
import Derived.Lib.ConvBytes
import Derived.Below
import Derived.Test.YtmkapocibaojdaaGreatDoorTr2
open Array renaming getElem?_append → iY, getElem?_eq_some_iff → bJ, getElem?_modify → fV, getElem?_setIfInBounds → iv, getElem?_toList → kx, toArray_toList → eJ, toList_push → jm
open Bool renaming and_eq_true → bT, not_eq_true' → kD
open List renaming all_eq_true → dF, append_assoc → bY, append_nil → bf, eq_nil_of_length_eq_zero → ct, eraseIdx_append_of_length_le → dM, eraseIdx_cons_zero → fD, eraseIdx_sublist → cG, ext_getElem? → eH, filter_sublist → dw, flatten_append → bj, flatten_cons → cr, flatten_nil → lj, getD_eq_getElem?_getD → aO, getElem?_append → kQ, getElem?_append_left → bz, getElem?_append_right → bt, getElem?_cons_zero → aV, getElem?_drop → cq, getElem?_eq_getElem → ak, getElem?_eq_none → cO, getElem?_eq_some_iff → ai, getElem?_eraseIdx → dj, getElem?_inj → dQ, getElem?_map → aF, getElem?_of_mem → aJ, getElem?_range → ew, getElem?_set_ne → cN, getElem?_set_self → bX, getElem?_take → cL, getElem_mem → cz, length_append → bA, length_drop → gm, length_map → aA, length_set → jg, length_take → bp, map_append → bw, map_congr_left → cB, map_cons → cj, map_nil → gy, map_toArray → lg, mem_append → au, mem_append_right → fW, mem_cons_of_mem → bk, mem_cons_self → bl, mem_eraseIdx_iff_getElem? → c9, mem_filterMap → dV, mem_flatten → cK, mem_map → aB, mem_of_getElem? → ae, mem_of_mem_take → jo, mem_or_eq_of_mem_set → jc, mem_singleton → ay, nodup_append → be, nodup_range → jJ, range → bD, take_add_one → cV
open List.Nodup renaming sublist → l9
open Nat renaming add_mul → jR, add_zero → dZ, beq → lR, ble → po, div_add_mod → lV, div_lt_of_lt_mul → jl, eq_of_beq_eq_true → dR, le_of_ble_eq_true → bP, le_refl → aX, le_succ → mm, le_trans → aZ, mod_lt → l8, mul_comm → fN, mul_le_mul_right → cD, one_mul → nK, sub_self → ec, succ_le_of_lt → jn, succ_mul → j1, zero_add → aK, zero_le → eo
open Option renaming getD_some → jK, map_eq_some_iff → aI, map_some → dU
open Option.some renaming inj → dG, injEq → az
open Prod.mk renaming injEq → aH
section
namespace Go.Sx
open Go
def Al (n:Nat) (ops:Array Oper) (E:Env) (i:Nat):Option (Value×Value×TypeId×Option Tmp):=
 match ops[i]? with
 | none=>none
 | some o=>if nT n o.dst then match o.guard with
  | some _=>none
  | none=>match o.op with
   | .call c=>match c.callee with
    | .builtin .append=>match jN E none c.args.toList with
     | some []=>match c.args.toList,c.argTypes.toList with
      | [s,x],[t,u]=>if lR t u then some (mG E s,mG E x,t,o.dst)else none
      | _,_=>none
     | _=>none
    | _=>none
   | _=>none
  else none
theorem CL {P:Program} {f:Func} [Pan f] {R:Act→World→Prop} {n:Nat} [Dfr n] {ops:Array Oper} {i:Nat} {E:Env} {h r:List (Nat×Obj)} {F:List (List Nat×World)} {Y:fQ} {sv xv:Value} {t:TypeId} {dst:Option Tmp} (he:Al n ops E i=some (sv,xv,t,dst))
  {a:Act} {w:World} (s:St n E h r F Y a w) {K:Act→World→Prop} {k:List oR}
  (H:∀ty,∃v' w',(Builtin.append_ #[t,t] ty #[sv,xv]).run P w=.ok v' w'∧∀a',Ag n (E.put dst (.val v')) a'→K a' w'):wpOp P ops (mq P f R k) i K a w:=by
 unfold Al at he
 split at he
 ·cases he
 rename_i o ho
 split at he
 case isFalse=>cases he
 rename_i hd
 split at he
 ·cases he
 rename_i hg
 split at he
 case h_2=>cases he
 rename_i c hc
 split at he
 case h_2=>cases he
 rename_i AY
 split at he
 case h_2=>cases he
 rename_i hq
 split at he
 case h_2=>cases he
 rename_i xs x t' u hargs AT
 split at he
 case isFalse=>cases he
 rename_i htu
 simp only[az,aH]at he
 obtain⟨rfl,rfl,rfl,rfl⟩:=he
 obtain rfl:=dR htu
 have uP:=eG s.ag (fun c w h=>by cases h) _ _ hq trivial
 have e1:a.eval xs=mG E xs:=uP xs (by rw[hargs];simp)
 have e2:a.eval x=mG E x:=uP x (by rw[hargs];simp)
 have hca:c.args = #[xs,x]:=by rw[←eJ (xs:=c.args),hargs]
 have hct:c.argTypes = #[t',t']:=by rw[←eJ (xs:=c.argTypes),AT]
 obtain⟨v',w',hrun,hk⟩:=H o.type
 unfold wpOp
 simp only[ho]
 rw[if_pos (by simp[Region.wanted,hg])]
 refine .inl ?_
 unfold Oper.wp execOp
 simp only[hc,resolve,AY,hca,hct,invoke,builtin,Sem.run_bind,Sem.run_pure,Result.andThen_ok,lg,cj,gy,e1,e2,hrun]
 exact hk _ (s.ag.put hd (.val v'))
theorem MB {h h' r:List (Nat×Obj)} {w w':World} (H:wA h r w) (hblk:∀x∈r,w'.heap[x.1]?=w.heap[x.1]?) (ho:Hp h' w') (hn:(h'.map (·.1)).Nodup) (hap:∀x∈r,x.1∉h'.map (·.1)):wA h' r w':=
 ⟨ho,hn,fun x hx=>(hblk x hx).trans (H.ro x hx),hap⟩
section app
variable {P:Program} {f:Func} [Pan f] {R:Act→World→Prop} {n:Nat} [Dfr n] {k:List oR} {E:Env} {h r:List (Nat×Obj)} {F:List (List Nat×World)} {Y:fQ}
theorem vL {P:Program} {e:TypeId} {z:Value} {size bytes:Nat} (h:(P.info? e).map (fun i=>(i.zero,i.size,i.bytes))=some (some z,size,bytes)):∃inf,P.info? e=some inf∧inf.zero=some z∧inf.size=size∧inf.bytes=bytes:=by
 obtain⟨inf,hi,hx⟩:=aI.1 h
 simp only[aH]at hx
 exact⟨inf,hi,hx.1,hx.2.1,hx.2.2⟩
end app
def yL (w:World) (S:Nat→Prop) (ax:Option Addr) (m size:Nat) (news:List (List D)):Prop:=
 news.length=m∧((ax=none∧m=0)∨∃ad us,ax=some ad∧us.length=m*size∧(∀(j:Nat) u,us[j]?=some u→w.cell? (ad.add j)=some u)∧gv w S us size news)
def qV (G:List (Value×D)):List Value→List D→Prop
 | [],[]=>True
 | u::us,d::ds=>((d=.v u∧u.oneCell'=true)∨(u,d)∈G∨∃a c k,u=.slice a 0 c∧d=.sl k [])∧qV G us ds
 | _,_=>False
theorem qV.len {G:List (Value×D)}:∀{us:List Value} {ds:List D},qV G us ds→us.length=ds.length
 | [],[],_=>rfl
 | _::_,_::_,h=>by simp[qV.len h.2]
 | [],_::_,h=>h.elim
 | _::_,[],h=>h.elim
theorem qV.at {G:List (Value×D)} {w:World} {S:Nat→Prop} (hG:∀x∈G,cm w S x.1 x.2):∀{us:List Value} {ds:List D},qV G us ds→∀(j:Nat) (d:D),ds[j]?=some d→∃u,us[j]?=some u∧cm w S u d
 | [],[],_,j,d,hd=>by simp at hd
 | u::us,d0::ds,h,0,d,hd=>by
  simp only[aV,az]at hd
  subst hd
  refine⟨u,rfl,?_⟩
  rcases h.1 with ⟨rfl,h1⟩|h1|⟨a,c,k,rfl,rfl⟩
  ·exact .v h1
  ·exact hG _ h1
  ·exact .nil
 | u::us,d0::ds,h,j+1,d,hd=>by
  obtain⟨u',h1,h2⟩:=qV.at hG h.2 j d (by simpa using hd)
  exact⟨u',by simpa using h1,h2⟩
 | [],_::_,h,_,_,_=>h.elim
 | _::_,[],h,_,_,_=>h.elim
section Vc
variable {P:Program} {f:Func} [Pan f] {R:Act→World→Prop} {n:Nat} [Dfr n] {k:List oR} {E:Env} {h r:List (Nat×Obj)} {F:List (List Nat×World)} {Y:fQ}
theorem fK {a:Act} {w:World} {aU:List (List Nat)} (s:nH n E h r F Y a w aU) (p:Nat) {b:Nat} {cs:Array Value} {ty:TypeId} {fz:Nat×Nat} {size:Nat} {row:List D} (hp:h[p]?=some (b,.cells cs ty fz)) (hsz:row.length=size) (hR:qV Y.G cs.toList row) :
  yL w (Sd Y h aU) (some ⟨b,0,none⟩) 1 size [row]:=by
 have hb:=s.own.own _ (ae hp)
 refine⟨rfl,.inr ⟨_,cs.toList,rfl,by rw[hR.len,hsz,nK],fun j u hu=>?_,by simp[hsz],fun i j row' d hi hj=>?_⟩⟩
 ·have DG:(⟨b,0,none⟩:Addr).add j=⟨b,0+j,none⟩:=by unfold Addr.add;split <;> simp_all
  rw[DG]
  exact cell_of rfl hb rfl (by simpa using hu)
 ·cases i with
  | succ i=>simp at hi
  | zero=>
   simp only[aV,az]at hi
   subst hi
   rw[Nat.zero_mul,aK]
   exact hR.at s.gh.g j d hj
theorem JY {w:World} {S:Nat→Prop} {a:Option Addr} {m c size:Nat} {rows:List (List D)} (h:cm w S (.slice a m c) (.sl size rows)) (_:0<size):yL w S a m size rows:=by
 cases h with
 | nil=>cases a with
  | none=>exact⟨rfl,.inl ⟨rfl,rfl⟩⟩
  | some ad=>exact⟨rfl,.inr ⟨ad,[],rfl,by simp,by simp,gv.nil _ _ _ _⟩⟩
 | sl u hb hS hc hk hl hcell mL=>
  rename_i b off cs e fz
  refine⟨rfl,.inr ⟨_,(bD (rows.length*size)).map (fun q=>u (q / size) (q % size)),rfl,by simp,fun j x hx=>?_,hl,fun i j row d hi hj=>?_⟩⟩
  ·rw[aF]at hx
   obtain⟨q,hq,rfl⟩:=aI.1 hx
   have hlt:j<rows.length*size:=by simpa using(ai.1 hq).1
   have Qd:q=j:=by rw[ew hlt]at hq;exact(dG hq).symm
   subst Qd
   have h1:q / size<rows.length:=jl (by rw[fN];exact hlt)
   have h2:=hcell (q / size) (q % size) h1 (l8 _ hk)
   rw[fN,lV]at h2
   have DG:(⟨b,off,none⟩:Addr).add q=⟨b,off+q,none⟩:=by unfold Addr.add;split <;> simp_all
   rw[DG]
   exact cell_of rfl hb rfl h2
  ·have vM:=(ai.1 hi).1
   have oP:j<size:=by
    rw[←hl row (ae hi)]
    exact(ai.1 hj).1
   refine⟨u i j,?_,mL i j row d hi hj⟩
   rw[aF,ew (xW vM oP)]
   have h1:(i*size+j) / size=i:=by
    rw[fN,Nat.mul_add_div hk,Nat.div_eq_of_lt oP,dZ]
   have h2:(i*size+j) % size=j:=by
    rw[fN,Nat.mul_add_mod,Nat.mod_eq_of_lt oP]
   simp[h1,h2]
theorem pK {a:Act} {w:World} {aU:List (List Nat)} (s:nH n E h r F Y a w aU) (p:Nat) {a0:Option Addr} {m c size:Nat} {rows:List (List D)} (hp:Y.G[p]?=some (.slice a0 m c,.sl size rows)) (hsz:0<size):yL w (Sd Y h aU) a0 m size rows:=
 JY (s.gh.g _ (ae hp)) hsz
theorem Js {id L0 i:Nat} {ck:Bool} {Wp:List (Nat×List Nat)} {rest:List (Nat×Bool)} (q t e size bytes:Nat) (z:Value) {a0 ax:Option Addr} {len iB m c:Nat} {rows:List (List D)} {dst:Option Tmp} (news:List (List D))
  (he:Al n (bS f id) E i=some (.slice a0 len iB,.slice ax m c,t,dst)) (hok:(!ck||(Wp.lookup i).isSome)=true)
  (ht:P.underlying t=some (.slice e)) (hi:(P.info? e).map (fun i=>(i.zero,i.size,i.bytes))=some (some z,size,bytes)) (hzs:z.cells.size=size) (hs0:0<size)
  (hc:Y.C[q]?=some (aT (.slice a0 len iB) e size rows)) (hsrc:∀a w aU,nH n E h r F Y a w aU→yL w (Sd Y h aU) ax m size news)
  (wG:len+m≤maxLen) (hby:(len+m)*bytes≤140737488355328)
  (A:∀a' cap',JR P f R n (bS f id) L0 ck rest (Wp.filter (·.1 != i)) k (E.put dst (.val (.slice a' (len+m) cap'))) h r F ⟨Y.S,o4 Y.C [q]++[aT (.slice a' (len+m) cap') e size (rows++news)],Y.G++[]⟩) :
  JR P f R n (bS f id) L0 ck ((i,false)::rest) Wp k E h r F Y:=by
 obtain⟨inf,EF,FX,rfl,rfl⟩:=vL hi
 intro B Hd aU a w s hH hR hN hW
 simp only[PW]
 obtain⟨fp,og,_,hP⟩:=s.gh.kF.at hc
 have hlen:=EN (show(aT (.slice a0 len iB) e inf.size rows).P w (Sd Y h aU) fp from⟨hs0,hP⟩)
 have hpk:pick aU [q]=[fp]:=by simp[pick,og]
 have hM:(pick aU [q]).flatten=fp:=by rw[hpk];simp
 refine CL he s.st fun ty=>?_
 obtain⟨hnm,Wz⟩:=hsrc a w aU s
 have key:∃a' cap' w',(Builtin.append_ #[t,t] ty #[.slice a0 len iB,.slice ax m c]).run P w=.ok (.slice a' (len+m) cap') w'∧cQ (pick aU [q]).flatten w (Sd Y h aU) w' (.returned (.slice a' (len+m) cap')) (.slice a' (len+m) cap') [aT (.slice a' (len+m) cap') e inf.size (rows++news)] []:=by
  rw[hM]
  rcases Wz with ⟨rfl,rfl⟩|⟨ad,us,rfl,TF,Kt,QE⟩
  ·have hnews:news=[]:=ct hnm
   subst hnews
   have hle:len≤iB:=by
    rcases hP with ⟨_,h2,_⟩|⟨g,cap,cur,xs,h2,_,_,h3,_⟩
    ·cases h2;exact aX _
    ·cases h2;exact h3.le
   refine⟨a0,iB,w,?_,rfl,Fr.refl _ _,[fp],?_,?_,fun b hb=>⟨.inl (by simpa using hb),s.gh.lt b (cK.2 ⟨fp,ae og,by simpa using hb⟩)⟩,by simp⟩
   ·cases a0 <;> simp[Builtin.append_,run_underlying ht,sizeOf,typeInfo,EF,Builtin.lenOf,Builtin.firstCells,hle,storeCells]
   ·refine⟨?_,trivial⟩
    rw[bf,dZ]
    refine(aT _ _ _ _).mono (w:=w) (S:=Sd Y h aU) ⟨hs0,hP⟩ (fun _ _=>rfl) fun b hb _=>⟨⟨.inl hb,fun hm=>hb.2.2 ?_⟩,rfl⟩
    exact cK.2 ⟨fp,ae og,by simpa using hm⟩
   ·have:=gH s.gh.nodup (List.singleton_sublist.2 (ae og))
    exact this
  ·have hown:∃xs,w.ownsRow 0 e inf.size (.slice a0 len iB) len xs∧gv w (Sd Y h aU) xs inf.size rows∧xs.length=rows.length*inf.size∧(∀b,(Value.slice a0 len iB).ownBlock=some b→b∈fp):=by
    rcases hP with ⟨rfl,h2,rfl⟩|⟨g,cap,cur,xs,h2,rfl,h3,h4,h5⟩
    ·cases h2
     exact⟨[],World.ownsRow_nil w 0 e inf.size,gv.nil _ _ _ _,by simp,by simp[Value.ownBlock]⟩
    ·cases h2
     exact⟨xs,⟨h4.len,.inr ⟨g,iB,cur,rfl,eo _,h3,h4.le,h4.max,h4.Ei,h4.take⟩⟩,h5,h4.len,by simp[Value.ownBlock]⟩
   obtain⟨xs,hown,Xg,Ez,VE⟩:=hown
   obtain⟨v',w',hrun,LP,Qx,uN,hat⟩:=run_append_own_at (P:=P) w 0 t ty e inf z inf.size inf.bytes ht EF FX rfl rfl hzs hs0 _ len xs hown ad m c us TF Kt (QE.one (by rw[TF,hnm])) wG hby (eo _)
   have hfr:Fr fp w w':=⟨Qx.os,Qx.tape,Qx.output,Qx.size,fun b hb hn=>Qx.block b hb fun he=>hn (VE b he.symm),Sem.gA hrun⟩
   have hnot:∀b,Sd Y h aU b→b∉fp:=fun b hb hm=>hb.2.2 (cK.2 ⟨fp,ae og,hm⟩)
   have QF:∀g',(g'∈fp∨w.heap.size≤g')→gv w' (l5 (Sd Y h aU) fp w [[g']]) (xs++us) inf.size (rows++news):=fun g' N8=>
    (Xg.app Ez QE).mono fun b hb hlt=>⟨⟨.inl hb,fun hm=>by
     simp only[cr,lj,bf,ay]at hm
     subst hm
     rcases N8 with h1|h1
     ·exact hnot _ hb h1
     ·omega⟩,hfr.block b hlt (hnot b hb)⟩
   rcases LP.2 with ⟨rfl,h0⟩|⟨g',cap',cur',rfl,_,N8,hle,R9,hsz,R7⟩
   ·have hm0:m=0:=by omega
    have CV:len=0:=by omega
    have hnews:news=[]:=ct (by omega)
    have hrows:rows=[]:=ct (by omega)
    subst hm0 CV hnews hrows
    have h2:=uN.1 rfl
    exact⟨none,0,w',hrun,rfl,hfr,[[]],⟨⟨hs0,.inl ⟨rfl,rfl,rfl⟩⟩,trivial⟩,by simp,by simp,by simp⟩
   ·have Qy:g'∈fp∨w.heap.size≤g':=by
     simp only[Value.ownBlock]at hat
     rcases hat with h1|h1
     ·exact .inl (VE g' (by simp only[Value.ownBlock];exact h1.symm))
     ·simp only[az]at h1
      exact .inr (by omega)
    have hlt:g'<w'.heap.size:=(bJ.1 N8).1
    refine⟨_,cap',w',hrun,rfl,hfr,[[g']],⟨⟨hs0,.inr ⟨g',cap',cur',xs++us,?_,rfl,N8,?_,QF g' Qy⟩⟩,trivial⟩,by simp,fun b hb=>?_,by simp⟩
    ·rw[bA,hnm,hlen]
    ·rw[bA,hnm,←hlen]
     exact⟨LP.1,hsz,hle,R9,R7⟩
    ·simp only[cr,lj,bf,ay]at hb
     subst hb
     exact⟨Qy,hlt⟩
 obtain⟨a',cap',w',hrun,wH⟩:=key
 have hf:=wH.fr
 refine⟨_,w',hrun,fun a2 hA=>⟨fun uQ b hb hl=>hf.block b hb fun hm=>?_,?_⟩⟩
 ·have qU:=bu hm
  cases LW:Wp.lookup i with
  | none=>
   rw[LW,uQ]at hok
   simp at hok
  | some ps=>
   rw[ny,LW]at hl
   obtain⟨h1,h2⟩:=hl _ rfl
   rcases hH b qU with h3|h3
   ·exact h2 (fW _ h3)
   ·omega
 ·rw[jP]
  obtain⟨gE,h3,s'⟩:=s.called (cs:=[q]) hA wH
  refine A a' cap' B Hd _ a2 w' s' (fun b hb=>?_) ⟨hR.old,hR.ro,hR.len,aZ hR.size hf.size⟩ hN (gT hW)
  rw[bj]at hb
  rcases au.1 hb with hb|hb
  ·exact hH b (bu hb)
  ·rcases h3 b hb with h1|h1
   ·exact hH b (bu h1)
   ·exact .inr (aZ hR.size h1)
theorem Lr {S0:Nat→Prop} {C0:List Chunk} {G0:List (Value×D)} {id L0 i:Nat} {ck:Bool} {Wp:List (Nat×List Nat)} {rest:List (Nat×Bool)} (q t e size bytes:Nat) (z:Value) {a0 ax:Option Addr} {len iB m c:Nat} {rows:List (List D)} {dst:Option Tmp} (news:List (List D))
  (he:Al n (bS f id) E i=some (.slice a0 len iB,.slice ax m c,t,dst)) (hok:(!ck||(Wp.lookup i).isSome)=true)
  (ht:P.underlying t=some (.slice e)) (hi:(P.info? e).map (fun i=>(i.zero,i.size,i.bytes))=some (some z,size,bytes)) (hzs:z.cells.size=size) (hs0:0<size)
  (hc:C0[q]?=some (aT (.slice a0 len iB) e size rows)) (hsrc:∀a w aU,nH n E h r F ⟨S0,C0,G0⟩ a w aU→yL w (Sd ⟨S0,C0,G0⟩ h aU) ax m size news)
  (wG:len+m≤maxLen) (hby:(len+m)*bytes≤140737488355328)
  (A:∀a' cap',JR P f R n (bS f id) L0 ck rest (Wp.filter (·.1 != i)) k (E.put dst (.val (.slice a' (len+m) cap'))) h r F ⟨S0,o4 C0 [q]++[aT (.slice a' (len+m) cap') e size (rows++news)],G0++[]⟩) :
  JR P f R n (bS f id) L0 ck ((i,false)::rest) Wp k E h r F ⟨S0,C0,G0⟩:=Js (Y:=⟨S0,C0,G0⟩) q t e size bytes z news he hok ht hi hzs hs0 hc hsrc wG hby A
theorem Jr {α:Type} {id L0 i:Nat} {ck:Bool} {Wp:List (Nat×List Nat)} {rest:List (Nat×Bool)} (q t e size bytes:Nat) (z:Value) {a0 ax:Option Addr} {len iB m c:Nat} {enc:α→List D} {l:List α} {dst:Option Tmp} (xs:List α)
  (he:Al n (bS f id) E i=some (.slice a0 len iB,.slice ax m c,t,dst)) (hok:(!ck||(Wp.lookup i).isSome)=true)
  (ht:P.underlying t=some (.slice e)) (hi:(P.info? e).map (fun i=>(i.zero,i.size,i.bytes))=some (some z,size,bytes)) (hzs:z.cells.size=size) (hs0:0<size)
  (hc:Y.C[q]?=some (aT (.slice a0 len iB) e size (l.map enc))) (hsrc:∀a w aU,nH n E h r F Y a w aU→yL w (Sd Y h aU) ax m size (xs.map enc))
  (wG:len+m≤maxLen) (hby:(len+m)*bytes≤140737488355328)
  (A:∀a' cap',JR P f R n (bS f id) L0 ck rest (Wp.filter (·.1 != i)) k (E.put dst (.val (.slice a' (len+m) cap'))) h r F ⟨Y.S,o4 Y.C [q]++[aT (.slice a' (len+m) cap') e size ((l++xs).map enc)],Y.G++[]⟩) :
  JR P f R n (bS f id) L0 ck ((i,false)::rest) Wp k E h r F Y:=by
 refine Lr q t e size bytes z (xs.map enc) he hok ht hi hzs hs0 hc hsrc wG hby fun a' cap'=>?_
 have:=A a' cap'
 rwa[bw]at this
theorem eY {S0:Nat→Prop} {C0:List Chunk} {G0:List (Value×D)} {α:Type} {id L0 i:Nat} {ck:Bool} {Wp:List (Nat×List Nat)} {rest:List (Nat×Bool)} (q t e size bytes:Nat) (z:Value) {a0 ax:Option Addr} {len iB m c:Nat} {enc:α→List D} {l:List α} {dst:Option Tmp} (xs:List α)
  (he:Al n (bS f id) E i=some (.slice a0 len iB,.slice ax m c,t,dst)) (hok:(!ck||(Wp.lookup i).isSome)=true)
  (ht:P.underlying t=some (.slice e)) (hi:(P.info? e).map (fun i=>(i.zero,i.size,i.bytes))=some (some z,size,bytes)) (hzs:z.cells.size=size) (hs0:0<size)
  (hc:C0[q]?=some (aT (.slice a0 len iB) e size (l.map enc))) (hsrc:∀a w aU,nH n E h r F ⟨S0,C0,G0⟩ a w aU→yL w (Sd ⟨S0,C0,G0⟩ h aU) ax m size (xs.map enc))
  (wG:len+m≤maxLen) (hby:(len+m)*bytes≤140737488355328)
  (A:∀a' cap',JR P f R n (bS f id) L0 ck rest (Wp.filter (·.1 != i)) k (E.put dst (.val (.slice a' (len+m) cap'))) h r F ⟨S0,o4 C0 [q]++[aT (.slice a' (len+m) cap') e size ((l++xs).map enc)],G0++[]⟩) :
  JR P f R n (bS f id) L0 ck ((i,false)::rest) Wp k E h r F ⟨S0,C0,G0⟩:=Jr (Y:=⟨S0,C0,G0⟩) q t e size bytes z xs he hok ht hi hzs hs0 hc hsrc wG hby A
theorem qG {α:Type} {k:Nat}:∀{rows:List (List α)},(∀row∈rows,row.length=k)→∀{i j:Nat} {row:List α} {d:α},rows[i]?=some row→row[j]?=some d→rows.flatten[i*k+j]?=some d
 | [],_,i,j,row,d,hi,_=>by simp at hi
 | r::rows,hl,0,j,row,d,hi,hj=>by
  simp only[aV,az]at hi
  subst hi
  have oP:=(ai.1 hj).1
  rw[Nat.zero_mul,aK,cr,bz oP]
  exact hj
 | r::rows,hl,i+1,j,row,d,hi,hj=>by
  have hr:=hl r (bl ..)
  have ih:=qG (fun x hx=>hl x (bk _ hx)) (by simpa using hi) hj
  have h1:(i+1)*k=k+i*k:=by rw[j1];omega
  rw[cr,bt (by rw[hr,h1];omega),hr,h1]
  have h2:k+i*k+j - k=i*k+j:=by omega
  rw[h2]
  exact ih
theorem nH.data {a:Act} {w:World} {aU:List (List Nat)} (s:nH n E h r F Y a w aU) (p:Nat) {b:Nat} {cs:Array Value} {e:TypeId} {fz:Nat×Nat} {size cap:Nat} {rows:List (List D)} (hp:h[p]?=some (b,.cells cs e fz)) (hk:0<size) (hl:∀row∈rows,row.length=size) (hcap:rows.length≤cap)
  (hR:qV Y.G cs.toList rows.flatten):nH n E (h.eraseIdx p) r F ⟨Y.S,Y.C,Y.G++[(.slice (some ⟨b,0,none⟩) rows.length cap,.sl size rows)]⟩ a w aU:=by
 have hm:∀x∈h.eraseIdx p,x∈h:=fun x hx=>(cG h p).subset hx
 have kT:∀c,c∈(h.eraseIdx p).map (·.1)→c∈h.map (·.1):=fun c hc=>by
  obtain⟨x,hx,rfl⟩:=aB.1 hc
  exact aB.2 ⟨x,hm x hx,rfl⟩
 have hnot:b∉(h.eraseIdx p).map (·.1):=fun hc=>by
  obtain⟨x,hx,MW⟩:=aB.1 hc
  obtain⟨j,hj,he⟩:=c9.1 hx
  have h1:(h.map (·.1))[j]?=some b:=by simp[he,MW]
  have h2:(h.map (·.1))[p]?=some b:=by simp[hp]
  exact hj ((dQ (ai.1 h1).1 s.own.nodup).1 (h1.trans h2.symm))
 have yg:(b,Obj.cells cs e fz)∈h:=ae hp
 have KI:b∉aU.flatten:=fun hx=>s.gh.mw b hx (aB.2 ⟨_,yg,rfl⟩)
 have hS:∀c,Sd Y h aU c→Sd Y (h.eraseIdx p) aU c:=fun c hc=>⟨hc.1,fun hx=>hc.2.1 (kT c hx),hc.2.2⟩
 refine⟨s.ag,⟨fun x hx=>s.own.own x (hm x hx),((cG h p).map _).nodup s.own.nodup,s.own.ro,fun x hx hc=>s.own.apart x hx (kT _ hc)⟩,s.fr,fun f hf x hx=>s.may f hf x (hm x hx),
  ⟨s.gh.kF.mono (fun _ _=>rfl) fun c hc _=>⟨hS c hc,rfl⟩,s.gh.nodup,fun c hc hx=>s.gh.mw c hc (kT c hx),s.gh.apart,s.gh.may,s.gh.lt,fun x hx=>s.gh.own x (hm x hx),s.gh.kT,s.gh.top,fun x hx=>?_⟩⟩
 rcases au.1 hx with hx|hx
 ·exact(s.gh.g x hx).mono fun c hc _=>⟨hS c hc,rfl⟩
 ·rw[ay]at hx
  subst hx
  refine .sl (fun i j=>cs.toList.getD (i*size+j) undef) (s.own.own _ yg) ⟨s.gh.own _ yg,hnot,KI⟩ hcap hk hl (fun i j hi hj=>?_) fun i j row d hi hj=>?_
  ·have T5:j<(rows[i]'hi).length:=by rw[hl _ (cz hi)];exact hj
   have h1:=qG hl (ak hi) (ak T5)
   obtain⟨u,hu,_⟩:=hR.at s.gh.g _ _ h1
   rw[aK,aO,hu]
   simpa using hu
  ·obtain⟨u,hu,hr⟩:=hR.at s.gh.g _ _ (qG hl hi hj)
   simp only[aO,hu,jK]
   exact hr.mono fun c hc _=>⟨hS c hc,rfl⟩
theorem Lo {α:Type} (p:Nat) (enc:α→List D) (l:List α) (cap:Nat) {b:Nat} {cs:Array Value} {e:TypeId} {fz:Nat×Nat} {size:Nat} (hp:h[p]?=some (b,.cells cs e fz)) (hk:0<size) (Nq:∀x∈l,(enc x).length=size) (hcap:l.length≤cap) (hR:qV Y.G cs.toList (l.map enc).flatten)
  (H:J P f R n k E (h.eraseIdx p) r F ⟨Y.S,Y.C,Y.G++[(.slice (some ⟨b,0,none⟩) (l.map enc).length cap,.sl size (l.map enc))]⟩):J P f R n k E h r F Y:=fun a w ⟨aU,s⟩=>
 H a w ⟨aU,s.data p hp hk (by intro row hrow;obtain⟨x,hx,rfl⟩:=aB.1 hrow;exact Nq x hx) (by rw[aA];exact hcap) hR⟩
theorem ue {S0:Nat→Prop} {C0:List Chunk} {G0:List (Value×D)} {α:Type} (p:Nat) (enc:α→List D) (l:List α) (cap:Nat) {b:Nat} {cs:Array Value} {e:TypeId} {fz:Nat×Nat} {size:Nat} (hp:h[p]?=some (b,.cells cs e fz)) (hk:0<size) (Nq:∀x∈l,(enc x).length=size) (hcap:l.length≤cap) (hR:qV G0 cs.toList (l.map enc).flatten)
  (H:J P f R n k E (h.eraseIdx p) r F ⟨S0,C0,G0++[(.slice (some ⟨b,0,none⟩) (l.map enc).length cap,.sl size (l.map enc))]⟩):J P f R n k E h r F ⟨S0,C0,G0⟩:=Lo (Y:=⟨S0,C0,G0⟩) p enc l cap hp hk Nq hcap hR H
theorem Jm {α:Type} {ops:Array Oper} {L0:Nat} {ck:Bool} {fb:List (Nat×Bool)} {Wp:List (Nat×List Nat)} (p:Nat) (enc:α→List D) (l:List α) (cap:Nat) {b:Nat} {cs:Array Value} {e:TypeId} {fz:Nat×Nat} {size:Nat} (hp:h[p]?=some (b,.cells cs e fz)) (hL:po L0 p=true) (hk:0<size) (Nq:∀x∈l,(enc x).length=size) (hcap:l.length≤cap) (hR:qV Y.G cs.toList (l.map enc).flatten)
  (H:JR P f R n ops L0 ck fb Wp k E (h.eraseIdx p) r F ⟨Y.S,Y.C,Y.G++[(.slice (some ⟨b,0,none⟩) (l.map enc).length cap,.sl size (l.map enc))]⟩):JR P f R n ops L0 ck fb Wp k E h r F Y:=fun B Hd aU a w s hH Iy hN hW=>by
 have VQ:=bP hL
 have pS:=(ai.1 hp).1
 have hsame:∀i:Nat,i<L0→(h.eraseIdx p)[i]?=h[i]?:=fun i hi=>by rw[dj];simp[show i<p by omega]
 have s':=s.data (cap:=cap) p hp hk (rows:=l.map enc) (by intro row hrow;obtain⟨x,hx,rfl⟩:=aB.1 hrow;exact Nq x hx) (by rw[aA];exact hcap) hR
 have sM:kp Hd (h.eraseIdx p) Wp=kp Hd h Wp:=by
  unfold kp
  refine cB fun y hy=>?_
  congr 2
  have h1:=dF.1 hW y hy
  exact mN _ _ _ fun q hq=>by rw[hsame q (Bd (dF.1 h1 q hq))]
 have:=H B Hd aU a w s' hH ⟨fun i hi x hx=>Iy.old i hi x (by rw[←hsame i hi];exact hx),Iy.ro,by rw[List.length_eraseIdx];simp only[pS,if_true];have:=Iy.len;omega,Iy.size⟩ (fun j hj x hx=>by
  rw[dj]at hx
  split at hx
  ·exact hN j hj x hx
  ·exact hN (j+1) (by omega) x hx) hW
 rwa[sM]at this
theorem Bj {S0:Nat→Prop} {C0:List Chunk} {G0:List (Value×D)} {α:Type} {ops:Array Oper} {L0:Nat} {ck:Bool} {fb:List (Nat×Bool)} {Wp:List (Nat×List Nat)} (p:Nat) (enc:α→List D) (l:List α) (cap:Nat) {b:Nat} {cs:Array Value} {e:TypeId} {fz:Nat×Nat} {size:Nat} (hp:h[p]?=some (b,.cells cs e fz)) (hL:po L0 p=true) (hk:0<size) (Nq:∀x∈l,(enc x).length=size) (hcap:l.length≤cap) (hR:qV G0 cs.toList (l.map enc).flatten)
  (H:JR P f R n ops L0 ck fb Wp k E (h.eraseIdx p) r F ⟨S0,C0,G0++[(.slice (some ⟨b,0,none⟩) (l.map enc).length cap,.sl size (l.map enc))]⟩):JR P f R n ops L0 ck fb Wp k E h r F ⟨S0,C0,G0⟩:=Jm (Y:=⟨S0,C0,G0⟩) p enc l cap hp hL hk Nq hcap hR H
theorem nH.share {a:Act} {w:World} {aU:List (List Nat)} (s:nH n E h r F Y a w aU) (p:Nat) {b:Nat} {o:Obj} (hp:h[p]?=some (b,o)):nH n E (h.eraseIdx p) r F ⟨Y.S,Y.C,Y.G++[(.pointer (some ⟨b,0,none⟩),.obj o)]⟩ a w aU:=by
 have hm:∀x∈h.eraseIdx p,x∈h:=fun x hx=>(cG h p).subset hx
 have kT:∀c,c∈(h.eraseIdx p).map (·.1)→c∈h.map (·.1):=fun c hc=>by
  obtain⟨x,hx,rfl⟩:=aB.1 hc
  exact aB.2 ⟨x,hm x hx,rfl⟩
 have hnot:b∉(h.eraseIdx p).map (·.1):=fun hc=>by
  obtain⟨x,hx,MW⟩:=aB.1 hc
  obtain⟨j,hj,he⟩:=c9.1 hx
  have h1:(h.map (·.1))[j]?=some b:=by simp[he,MW]
  have h2:(h.map (·.1))[p]?=some b:=by simp[hp]
  exact hj ((dQ (ai.1 h1).1 s.own.nodup).1 (h1.trans h2.symm))
 have yg:(b,o)∈h:=ae hp
 have KI:b∉aU.flatten:=fun hx=>s.gh.mw b hx (aB.2 ⟨_,yg,rfl⟩)
 have hS:∀c,Sd Y h aU c→Sd Y (h.eraseIdx p) aU c:=fun c hc=>⟨hc.1,fun hx=>hc.2.1 (kT c hx),hc.2.2⟩
 refine⟨s.ag,⟨fun x hx=>s.own.own x (hm x hx),((cG h p).map _).nodup s.own.nodup,s.own.ro,fun x hx hc=>s.own.apart x hx (kT _ hc)⟩,s.fr,fun f hf x hx=>s.may f hf x (hm x hx),
  ⟨s.gh.kF.mono (fun _ _=>rfl) fun c hc _=>⟨hS c hc,rfl⟩,s.gh.nodup,fun c hc hx=>s.gh.mw c hc (kT c hx),s.gh.apart,s.gh.may,s.gh.lt,fun x hx=>s.gh.own x (hm x hx),s.gh.kT,s.gh.top,fun x hx=>?_⟩⟩
 rcases au.1 hx with hx|hx
 ·exact(s.gh.g x hx).mono fun c hc _=>⟨hS c hc,rfl⟩
 ·rw[ay]at hx
  subst hx
  exact .obj (s.own.own _ yg) ⟨s.gh.own _ yg,hnot,KI⟩
theorem St.share {a:Act} {w:World} (s:St n E h r F Y a w) (p:Nat) {b:Nat} {o:Obj} (hp:h[p]?=some (b,o)):St n E (h.eraseIdx p) r F ⟨Y.S,Y.C,Y.G++[(.pointer (some ⟨b,0,none⟩),.obj o)]⟩ a w:=by
 obtain⟨aU,s⟩:=s
 exact⟨aU,s.share p hp⟩
theorem ve {S0:Nat→Prop} {C0:List Chunk} {G0:List (Value×D)} (p:Nat) {b:Nat} {o:Obj} (hp:h[p]?=some (b,o)) (H:J P f R n k E (h.eraseIdx p) r F ⟨S0,C0,G0++[(.pointer (some ⟨b,0,none⟩),.obj o)]⟩):J P f R n k E h r F ⟨S0,C0,G0⟩:=fun a w ⟨aU,s⟩=>
 H a w ⟨aU,s.share p hp⟩
theorem oO {cs:Array Value} {x:Nat} {v:Value} (h:cs[x+0]?=some v):cs[x]?=some v:=h
theorem dD {α β:Type} {g:α→β} {l:List α} {i:Nat} {x:α} (h:l[i]?=some x):(l.map g)[i]?=some (g x):=by rw[aF,h];rfl
end Vc
end Go.Sx
end
section
namespace Go.Sx
open Go Go.MapKept
structure gP (d:TypeDesc) (es:Array MapEntry) (f:Value→Option Value):Prop where
 key:∀x∈es.toList,IsKey d x.key
 nodup:(es.toList.map (·.key)).Nodup
 val:∀x∈es.toList,f x.key=some x.val
 has:∀k v,f k=some v→∃x∈es.toList,x.key=k
open Classical in
noncomputable def lK (f:Value→Option Value) (key val:Value):Value→Option Value:=fun k=>if k=key then some val else f k
open Classical in
noncomputable def pU (f:Value→Option Value) (key:Value):Value→Option Value:=fun k=>if k=key then none else f k
theorem gP.empty (d:TypeDesc):gP d #[] (fun _=>none):=⟨by simp,by simp,by simp,by simp⟩
theorem gP.congr {d:TypeDesc} {es:Array MapEntry} {f g:Value→Option Value} (h:gP d es f) (hfg:∀k,f k=g k):gP d es g:=by
 obtain rfl:f=g:=funext hfg
 exact h
theorem gP.look {d:TypeDesc} {es:Array MapEntry} {f:Value→Option Value} (h:gP d es f) {k:Value} (hk:IsKey d k) :
  (Instr.findNow d k es.toList 0=some none∧f k=none∧∀x∈es.toList,x.key≠k)∨∃j e,Instr.findNow d k es.toList 0=some (some (j,e.val))∧es.toList[j]?=some e∧e.key=k∧f k=some e.val:=by
 rcases findNow_spec hk es.toList 0 h.key with ⟨h1,h2⟩|⟨j,e,h1,h2,h3⟩
 ·refine .inl ⟨h1,?_,h2⟩
  cases hf:f k with
  | none=>rfl
  | some v=>
   obtain⟨x,hx,xY⟩:=h.has k v hf
   exact absurd xY (h2 x hx)
 ·rw[aK]at h1
  refine .inr ⟨j,e,h1,h2,h3,?_⟩
  rw[←h3]
  exact h.val e (ae h2)
theorem gP.other {d:TypeDesc} {es:Array MapEntry} {f:Value→Option Value} (h:gP d es f) {j i:Nat} {e x:MapEntry} (hj:es.toList[j]?=some e) (hi:es.toList[i]?=some x) (hne:i≠j):x.key≠e.key:=by
 intro he
 have h1:(es.toList.map (·.key))[i]?=some x.key:=by rw[aF,hi];rfl
 have h2:(es.toList.map (·.key))[j]?=some x.key:=by rw[aF,hj,he];rfl
 exact hne ((dQ (ai.1 h1).1 h.nodup).1 (h1.trans h2.symm))
theorem gP.push {d:TypeDesc} {es:Array MapEntry} {f:Value→Option Value} (h:gP d es f) {k v:Value} {born:Nat} (hk:IsKey d k) (hn:∀x∈es.toList,x.key≠k):gP d (es.push ⟨k,v,born⟩) (lK f k v):=by
 refine⟨fun x hx=>?_,?_,fun x hx=>?_,fun q u hq=>?_⟩
 ·simp only[jm,au,ay]at hx
  rcases hx with hx|rfl
  ·exact h.key x hx
  ·exact hk
 ·simp only[jm,bw,cj,gy]
  refine be.2 ⟨h.nodup,by simp,fun a ha b hb=>?_⟩
  simp only[ay]at hb
  subst hb
  obtain⟨x,hx,rfl⟩:=aB.1 ha
  exact hn x hx
 ·simp only[jm,au,ay]at hx
  rcases hx with hx|rfl
  ·simp[lK,hn x hx,h.val x hx]
  ·simp[lK]
 ·by_cases AU:q=k
  ·exact⟨⟨k,v,born⟩,by simp,AU.symm⟩
  ·simp only[lK,if_neg AU]at hq
   obtain⟨x,hx,xY⟩:=h.has q u hq
   exact⟨x,by simp[hx],xY⟩
theorem gP.By {d:TypeDesc} {es:Array MapEntry} {f:Value→Option Value} (h:gP d es f) {k v:Value} {j:Nat} {e:MapEntry} (hj:es.toList[j]?=some e) (he:e.key=k):gP d (es.modify j fun x=>{ x with key:=k,val:=v }) (lK f k v):=by
 subst he
 have hj':es[j]?=some e:=by simpa using hj
 have hkeys:(es.modify j fun x=>{ x with key:=e.key,val:=v }).toList.map (·.key)=es.toList.map (·.key):=modify_keys j _ (fun x hx=>by rw[hj']at hx;cases hx;rfl)
 have who:∀x∈(es.modify j fun x=>{ x with key:=e.key,val:=v }).toList,(x.key=e.key∧x.val=v)∨(x∈es.toList∧x.key≠e.key):=fun x hx=>by
  obtain⟨i,hi⟩:=aJ hx
  rw[kx,fV]at hi
  by_cases hij:j=i
  ·subst hij
   rw[if_pos rfl,hj']at hi
   simp only[dU,az]at hi
   rw[←hi]
   exact .inl ⟨rfl,rfl⟩
  ·rw[if_neg hij]at hi
   exact .inr ⟨Array.mem_toList_iff.2 (Array.mem_of_getElem? hi),h.other hj (by simpa using hi) (Ne.symm hij)⟩
 refine⟨isKey_modify h.key j _ (fun x hx=>by rw[hj']at hx;cases hx;rfl),by rw[hkeys];exact h.nodup,fun x hx=>?_,fun q u hq=>?_⟩
 ·rcases who x hx with ⟨h1,h2⟩|⟨h1,h2⟩
  ·simp[lK,h1,h2]
  ·simp[lK,h2,h.val x h1]
 ·have hmem:q∈es.toList.map (·.key):=by
   by_cases AU:q=e.key
   ·rw[AU];exact aB.2 ⟨e,ae hj,rfl⟩
   ·simp only[lK,if_neg AU]at hq
    obtain⟨x,hx,xY⟩:=h.has q u hq
    exact aB.2 ⟨x,hx,xY⟩
  rw[←hkeys]at hmem
  obtain⟨x,hx,xY⟩:=aB.1 hmem
  exact⟨x,hx,xY⟩
theorem gP.drop {d:TypeDesc} {es:Array MapEntry} {f:Value→Option Value} (h:gP d es f) {k:Value} {j:Nat} {e:MapEntry} (hj:es.toList[j]?=some e) (he:e.key=k):gP d (es.eraseIdxIfInBounds j) (pU f k):=by
 subst he
 have hlt:j<es.size:=by simpa using(ai.1 hj).1
 have hl:(es.eraseIdxIfInBounds j).toList=es.toList.eraseIdx j:=by
  unfold Array.eraseIdxIfInBounds
  rw[dif_pos hlt]
  simp
 have hsub:=cG es.toList j
 refine⟨fun x hx=>?_,?_,fun x hx=>?_,fun q u hq=>?_⟩
 ·rw[hl]at hx
  exact h.key x (hsub.subset hx)
 ·rw[hl]
  exact(hsub.map _).nodup h.nodup
 ·rw[hl]at hx
  obtain⟨i,hne,hi⟩:=c9.1 hx
  simp[pU,h.other hj hi hne,h.val x (hsub.subset hx)]
 ·by_cases AU:q=e.key
  ·simp[pU,AU]at hq
  ·simp only[pU,if_neg AU]at hq
   obtain⟨x,hx,xY⟩:=h.has q u hq
   obtain⟨i,hi⟩:=aJ hx
   refine⟨x,?_,xY⟩
   rw[hl]
   refine c9.2 ⟨i,fun hij=>AU ?_,hi⟩
   subst hij
   rw[hj]at hi
   cases hi
   exact xY.symm
theorem gP.Aa {d:TypeDesc} {es:Array MapEntry} {f:Value→Option Value} (h:gP d es f) {k:Value} (hf:f k=none):gP d es (pU f k):=h.congr fun q=>by
 by_cases hq:q=k
 ·simp[pU,hq,hf]
 ·simp[pU,hq]
def vG (n:Nat) (ops:Array Oper) (E:Env) (i:Nat):Option (Value×Value×TypeId×Bool×Option Tmp):=
 match ops[i]? with
 | none=>none
 | some o=>if nT n o.dst then match o.guard with
  | some _=>none
  | none=>match o.op with
   | .lookup t m x c=>match jN E none [m,x]with
    | some []=>some (mG E m,mG E x,t,c,o.dst)
    | _=>none
   | _=>none
  else none
def BU (n:Nat) (ops:Array Oper) (E:Env) (i:Nat):Option (Value×Value×Value×TypeId×Option Tmp):=
 match ops[i]? with
 | none=>none
 | some o=>if nT n o.dst then match o.guard with
  | some _=>none
  | none=>match o.op with
   | .mapUpdate t m x v=>match jN E none [m,x,v]with
    | some []=>some (mG E m,mG E x,mG E v,t,o.dst)
    | _=>none
   | _=>none
  else none
def II (n:Nat) (ops:Array Oper) (E:Env) (i:Nat):Option (Value×Value×TypeId×Option Tmp):=
 match ops[i]? with
 | none=>none
 | some o=>if nT n o.dst then match o.guard with
  | some _=>none
  | none=>match o.op with
   | .call c=>match c.callee with
    | .builtin .delete=>match jN E none c.args.toList with
     | some []=>match c.args.toList,c.argTypes.toList with
      | [s,x],[t,_]=>some (mG E s,mG E x,t,o.dst)
      | _,_=>none
     | _=>none
    | _=>none
   | _=>none
  else none
section maps
variable {P:Program} {f:Func} [Pan f] {R:Act→World→Prop} {n:Nat} [Dfr n] {k:List oR} {E:Env} {h r:List (Nat×Obj)} {F:List (List Nat×World)} {Y:fQ}
theorem ri {ops:Array Oper} {i:Nat} {mv xv vv:Value} {t:TypeId} {dst:Option Tmp} (he:BU n ops E i=some (mv,xv,vv,t,dst))
  {a:Act} {w:World} {aU:List (List Nat)} (s:nH n E h r F Y a w aU) {K:Act→World→Prop}
  (H:∃w',(Instr.mapUpdate t mv xv vv).run P w=.ok () w'∧∀a',Ag n (E.put dst (.val undef)) a'→K a' w'):wpOp P ops (mq P f R k) i K a w:=by
 unfold BU at he
 split at he
 ·cases he
 rename_i o ho
 split at he
 case isFalse=>cases he
 rename_i hd
 split at he
 ·cases he
 rename_i hg
 split at he
 case h_2=>cases he
 rename_i t' m x v hc
 split at he
 case h_2=>cases he
 rename_i hq
 simp only[az,aH]at he
 obtain⟨rfl,rfl,rfl,rfl,rfl⟩:=he
 have uP:=eG s.ag (fun c w h=>by cases h) _ _ hq trivial
 have e1:a.eval m=mG E m:=uP m (by simp)
 have e2:a.eval x=mG E x:=uP x (by simp)
 have e3:a.eval v=mG E v:=uP v (by simp)
 obtain⟨w',hrun,hk⟩:=H
 unfold wpOp
 simp only[ho]
 rw[if_pos (by simp[Region.wanted,hg])]
 refine .inl ?_
 unfold Oper.wp execOp
 simp only[hc,Sem.run_bind,Sem.run_pure,Result.andThen_ok,e1,e2,e3,hrun]
 exact hk _ (s.ag.put hd (.val undef))
theorem Cq {ops:Array Oper} {i:Nat} {mv xv:Value} {t:TypeId} {dst:Option Tmp} (he:II n ops E i=some (mv,xv,t,dst))
  {a:Act} {w:World} {aU:List (List Nat)} (s:nH n E h r F Y a w aU) {K:Act→World→Prop}
  (H:∀u ty,∃v' w',(Builtin.delete_ #[t,u] ty #[mv,xv]).run P w=.ok v' w'∧∀a',Ag n (E.put dst (.val v')) a'→K a' w'):wpOp P ops (mq P f R k) i K a w:=by
 unfold II at he
 split at he
 ·cases he
 rename_i o ho
 split at he
 case isFalse=>cases he
 rename_i hd
 split at he
 ·cases he
 rename_i hg
 split at he
 case h_2=>cases he
 rename_i c hc
 split at he
 case h_2=>cases he
 rename_i AY
 split at he
 case h_2=>cases he
 rename_i hq
 split at he
 case h_2=>cases he
 rename_i xs x t' u hargs AT
 simp only[az,aH]at he
 obtain⟨rfl,rfl,rfl,rfl⟩:=he
 have uP:=eG s.ag (fun c w h=>by cases h) _ _ hq trivial
 have e1:a.eval xs=mG E xs:=uP xs (by rw[hargs];simp)
 have e2:a.eval x=mG E x:=uP x (by rw[hargs];simp)
 have hca:c.args = #[xs,x]:=by rw[←eJ (xs:=c.args),hargs]
 have hct:c.argTypes = #[t',u]:=by rw[←eJ (xs:=c.argTypes),AT]
 obtain⟨v',w',hrun,hk⟩:=H u o.type
 unfold wpOp
 simp only[ho]
 rw[if_pos (by simp[Region.wanted,hg])]
 refine .inl ?_
 unfold Oper.wp execOp
 simp only[hc,resolve,AY,hca,hct,invoke,builtin,Sem.run_bind,Sem.run_pure,Result.andThen_ok,lg,cj,gy,e1,e2,hrun]
 exact hk _ (s.ag.put hd (.val v'))
def vH (c:Bool) (v:Value) (ok:Bool):Value:=match c with
 | true=>.tuple #[v,.bool ok]
 | false=>v
theorem qg {id L0 i:Nat} {ck:Bool} {Wp:List (Nat×List Nat)} {rest:List (Nat×Bool)} (hn:Hn) (b t kt et:Nat) (d:TypeDesc) (key z:Value) (c:Bool) (dst:Option Tmp) {es:Array MapEntry} {clock:Nat} {g:Value→Option Value}
  (he:vG n (bS f id) E i=some (.map (some b),key,t,c,dst)) (hok:(!ck||ME L0 (Wp.filter fun y=>!later (bS f id) i 3 y.1) [hn])=true) (ht:P.underlying t=some (.map kt et)) (hd:P.underlying kt=some d) (hk:IsKey d key) (hi:(P.info? et).map (·.zero)=some (some z))
  (hp:hn.get h r=some (b,.map es clock)) (hm:gP d es g)
  (A:g key=none→JR P f R n (bS f id) L0 ck rest Wp k (E.put dst (.val (vH c z false))) h r F Y)
  (B:∀v,g key=some v→JR P f R n (bS f id) L0 ck rest Wp k (E.put dst (.val (vH c v true))) h r F Y) :
  JR P f R n (bS f id) L0 ck ((i,true)::rest) Wp k E h r F Y:=by
 intro BB Hd aU a w s hH hR hN hW
 simp only[PW]
 obtain⟨inf,qF,hz⟩:=aI.1 hi
 have hzero:∀w,(zeroValue et).run P w=.ok z w:=fun w=>by simp[zeroValue,typeInfo,qF,hz]
 have Kt:used h r [hn]=[(b,.map es clock)]:=by simp[used,hp]
 have Nx:Hp (used h r [hn]) w:=fun y hy=>by
  obtain⟨hn',_,hg⟩:=dV.1 hy
  exact s.own.get hg
 unfold vG at he
 split at he
 ·cases he
 rename_i o ho
 split at he
 case isFalse=>cases he
 rename_i AX
 split at he
 ·cases he
 rename_i hg
 split at he
 case h_2=>cases he
 rename_i t' m x c' hc
 split at he
 case h_2=>cases he
 rename_i hq
 simp only[az,aH]at he
 obtain⟨e1,e2,rfl,rfl,rfl⟩:=he
 have uP:=eG s.ag (fun c w h=>by cases h) _ _ hq trivial
 have e1:a.eval m=.map (some b):=(uP m (by simp)).trans e1
 have e2:a.eval x=key:=(uP x (by simp)).trans e2
 have fin:∀v,(∀w,Hp (used h r [hn]) w→(Instr.lookup t' (.map (some b)) key c').run P w=.ok v w)→JR P f R n (bS f id) L0 ck rest Wp k (E.put o.dst (.val v)) h r F Y →
   ∃o' v' us,(bS f id)[i]?=some o'∧YieldsIf P (bS f id) (Hp us) o' v' a∧Hp us w∧(ck=true→∀y∈kp Hd h Wp,later (bS f id) i 3 y.1=true∨∀x∈us,x.1<BB∧x.1∉y.2)∧PW P (bS f id) (mq P f R k) BB ck rest (kp Hd h Wp) (a.put o'.dst v') w:=fun v hv H=>by
  refine⟨o,v,used h r [hn],ho,.inl ⟨by simp[Region.wanted,hg],fun w hw=>?_⟩,Nx,fun uQ y hy=>sy (fun j=>later (bS f id) i 3 j) s.own hR (by simpa [uQ]using hok) y hy,?_⟩
  ·unfold execOp
   simp only[hc,Sem.run_bind,Sem.run_pure,Result.andThen_ok,e1,e2,hv w hw]
  ·exact H BB Hd aU _ w ⟨s.ag.put AX (.val v),s.own,s.fr,s.may,s.gh⟩ hH hR hN hW
 have Iu:∀w,Hp (used h r [hn]) w→w.heap[b]?=some (.map es clock):=fun w hw=>hw (b,.map es clock) (by rw[Kt];simp)
 rcases hm.look hk with ⟨h1,h2,_⟩|⟨j,e,h1,_,_,h2⟩
 ·refine fin (vH c' z false) (fun w hw=>?_) (A h2)
  cases c' <;> simp[Instr.lookup,run_underlying ht,MapKept.run_getObj_map (Iu w hw),MapKept.run_checkKey hd hk,MapKept.run_findKey hd h1,hzero,Result.andThen,vH]
 ·refine fin (vH c' e.val true) (fun w hw=>?_) (B _ h2)
  cases c' <;> simp[Instr.lookup,run_underlying ht,MapKept.run_getObj_map (Iu w hw),MapKept.run_checkKey hd hk,MapKept.run_findKey hd h1,Result.andThen,vH]
theorem je {id L0 i p b:Nat} {ck:Bool} {Wp:List (Nat×List Nat)} {rest:List (Nat×Bool)} {dst:Option Tmp} {v:Value} {o o':Obj} (hok:(!ck||okW L0 (Wp.lookup i) [p])=true) (hp:h[p]?=some (b,o))
  {BB:Nat} {Hd:List Nat} {a a':Act} {w:World} {aU:List (List Nat)} (s:nH n E h r F Y a w aU) (hH:∀b∈aU.flatten,b∈Hd∨BB≤b) (hR:RI Hd BB L0 h r w) (hN:Lh BB L0 h) (hW:oT L0 Wp=true) (hA:Ag n (E.put dst (.val v)) a')
  (H:JR P f R n (bS f id) L0 ck rest (Wp.filter (·.1 != i)) k (E.put dst (.val v)) (h.set p (b,o')) r F Y) :
  (ck=true→BG BB ((kp Hd h Wp).lookup i) w { w with heap:=w.heap.setIfInBounds b o' })∧PW P (bS f id) (mq P f R k) BB ck rest ((kp Hd h Wp).filter (·.1 != i)) a' { w with heap:=w.heap.setIfInBounds b o' }:=by
 have d:wU h (h.set p (b,o')) [p] w { w with heap:=w.heap.setIfInBounds b o' }:=A4 hp (ay.2 rfl)
 have hO:=AI (o':=o') s.own hp
 refine⟨fun uQ=>vB d (by simpa [uQ]using hok) hN,?_⟩
 rw[jP,←xX hR.len d _ (gT hW)]
 exact H BB Hd aU a' _ (s.go hA hO d.dd) hH (hR.kE d) (hN.kE hR.size d) (gT hW)
theorem NV {id L0 i:Nat} {ck:Bool} {Wp:List (Nat×List Nat)} {rest:List (Nat×Bool)} (p b t kt et:Nat) (d:TypeDesc) (key val:Value) (dst:Option Tmp) {es:Array MapEntry} {clock:Nat} {g:Value→Option Value}
  (he:BU n (bS f id) E i=some (.map (some b),key,val,t,dst)) (hok:(!ck||okW L0 (Wp.lookup i) [p])=true) (ht:P.underlying t=some (.map kt et)) (hd:P.underlying kt=some d) (hk:IsKey d key)
  (hp:h[p]?=some (b,.map es clock)) (hm:gP d es g)
  (A:∀es' clock',gP d es' (lK g key val)→es'.size≤es.size+1→JR P f R n (bS f id) L0 ck rest (Wp.filter (·.1 != i)) k (E.put dst (.val undef)) (h.set p (b,.map es' clock')) r F Y) :
  JR P f R n (bS f id) L0 ck ((i,false)::rest) Wp k E h r F Y:=by
 intro BB Hd aU a w s hH hR hN hW
 simp only[PW]
 have hb:w.heap[b]?=some (.map es clock):=s.own.own _ (ae hp)
 refine ri he s ?_
 rcases hm.look hk with ⟨h1,_,h2⟩|⟨j,e,h1,h2,h3,_⟩
 ·refine⟨{ w with heap:=w.heap.setIfInBounds b (.map (es.push ⟨key,val,clock⟩) (clock+1)) },?_,fun a' hA=>je hok hp s hH hR hN hW hA (A _ _ (hm.push hk h2) (by simp))⟩
  simp[Instr.mapUpdate,run_underlying ht,MapKept.run_getObj_map hb,MapKept.run_checkKey hd hk,MapKept.run_findKey hd h1,MapKept.run_setObj_map _ hb,Result.andThen]
 ·have hj:es[j]?=some e:=by simpa using h2
  refine⟨{ w with heap:=w.heap.setIfInBounds b (.map (es.modify j fun x=>{ x with key:=key,val:=val }) clock) },?_,fun a' hA=>je hok hp s hH hR hN hW hA (A _ _ (hm.By h2 h3) (by simp))⟩
  simp[Instr.mapUpdate,run_underlying ht,MapKept.run_getObj_map hb,MapKept.run_checkKey hd hk,MapKept.run_findKey hd h1,hj,h3,run_keyThatStays hk,MapKept.run_setObj_map _ hb,Result.andThen]
theorem Jl {id L0 i:Nat} {ck:Bool} {Wp:List (Nat×List Nat)} {rest:List (Nat×Bool)} (p b t kt et:Nat) (d:TypeDesc) (key:Value) (dst:Option Tmp) {es:Array MapEntry} {clock:Nat} {g:Value→Option Value}
  (he:II n (bS f id) E i=some (.map (some b),key,t,dst)) (hok:(!ck||okW L0 (Wp.lookup i) [p])=true) (ht:P.underlying t=some (.map kt et)) (hd:P.underlying kt=some d) (hk:IsKey d key)
  (hp:h[p]?=some (b,.map es clock)) (hm:gP d es g)
  (A:∀es',gP d es' (pU g key)→es'.size≤es.size→JR P f R n (bS f id) L0 ck rest (Wp.filter (·.1 != i)) k (E.put dst (.val (.tuple #[]))) (h.set p (b,.map es' clock)) r F Y) :
  JR P f R n (bS f id) L0 ck ((i,false)::rest) Wp k E h r F Y:=by
 intro BB Hd aU a w s hH hR hN hW
 simp only[PW]
 have hb:w.heap[b]?=some (.map es clock):=s.own.own _ (ae hp)
 refine Cq he s fun u ty=>?_
 rcases hm.look hk with ⟨h1,h2,_⟩|⟨j,e,h1,h2,h3,_⟩
 ·refine⟨.tuple #[],{ w with heap:=w.heap.setIfInBounds b (.map es clock) },?_,fun a' hA=>je hok hp s hH hR hN hW hA (A _ (hm.Aa h2) (aX _))⟩
  simp[Builtin.delete_,run_underlying ht,MapKept.run_getObj_map hb,MapKept.run_checkKey hd hk,MapKept.run_findKey hd h1,MapKept.run_setObj_map _ hb,Result.andThen]
 ·refine⟨.tuple #[],{ w with heap:=w.heap.setIfInBounds b (.map (es.eraseIdxIfInBounds j) clock) },?_,fun a' hA=>je hok hp s hH hR hN hW hA (A _ (hm.drop h2 h3) ?_)⟩
  ·simp[Builtin.delete_,run_underlying ht,MapKept.run_getObj_map hb,MapKept.run_checkKey hd hk,MapKept.run_findKey hd h1,MapKept.run_setObj_map _ hb,Result.andThen]
  ·unfold Array.eraseIdxIfInBounds
   split <;> simp
end maps
end Go.Sx
end
section
namespace Go.Sx
open Go
theorem rZ {w:World} {g:Nat} {cs cs':Array Value} {e:TypeId} (hw:w.heap[g]?=some (.cells cs e (0,0))):w.setRow g cs'={ w with heap:=w.heap.setIfInBounds g (.cells cs' e (0,0)) }:=by
 unfold World.setRow
 congr 1
 apply Array.ext_getElem?
 intro j
 rw[fV,iv]
 by_cases hj:g=j
 ·subst hj
  have:g<w.heap.size:=(bJ.1 hw).1
  simp only[if_true,hw,dU,this]
 ·simp[hj]
def xx (cur:Array Value) (o:Nat) (vs:List Value):Array Value:=(cur.toList.take o++vs++cur.toList.drop (o+vs.length)).toArray
def Mf (n:Nat) (ops:Array Oper) (E:Env) (i:Nat):Option (Value×Value×TypeId×Option Tmp):=
 match ops[i]? with
 | none=>none
 | some o=>if nT n o.dst then match o.guard with
  | some _=>none
  | none=>match o.op with
   | .store t a x=>match jN E none [a,x]with
    | some []=>some (mG E a,mG E x,t,o.dst)
    | _=>none
   | _=>none
  else none
section rows
variable {P:Program} {f:Func} [Pan f] {R:Act→World→Prop} {n:Nat} [Dfr n] {k:List oR} {E:Env} {h r:List (Nat×Obj)} {F:List (List Nat×World)} {Y:fQ}
theorem Da {ops:Array Oper} {i:Nat} {av xv:Value} {t:TypeId} {dst:Option Tmp} (he:Mf n ops E i=some (av,xv,t,dst))
  {a:Act} {w:World} {aU:List (List Nat)} (s:nH n E h r F Y a w aU) {K:Act→World→Prop}
  (H:∃w',(Instr.storeAt t av xv).run P w=.ok () w'∧∀a',Ag n (E.put dst (.val undef)) a'→K a' w'):wpOp P ops (mq P f R k) i K a w:=by
 unfold Mf at he
 split at he
 ·cases he
 rename_i o ho
 split at he
 case isFalse=>cases he
 rename_i hd
 split at he
 ·cases he
 rename_i hg
 split at he
 case h_2=>cases he
 rename_i t' m x hc
 split at he
 case h_2=>cases he
 rename_i hq
 simp only[az,aH]at he
 obtain⟨rfl,rfl,rfl,rfl⟩:=he
 have uP:=eG s.ag (fun c w h=>by cases h) _ _ hq trivial
 have e1:a.eval m=mG E m:=uP m (by simp)
 have e2:a.eval x=mG E x:=uP x (by simp)
 obtain⟨w',hrun,hk⟩:=H
 unfold wpOp
 simp only[ho]
 rw[if_pos (by simp[Region.wanted,hg])]
 refine .inl ?_
 unfold Oper.wp execOp
 simp only[hc,Sem.run_bind,Sem.run_pure,Result.andThen_ok,e1,e2,hrun]
 exact hk _ (s.ag.put hd (.val undef))
theorem rW {id L0 i:Nat} {ck:Bool} {Wp:List (Nat×List Nat)} {rest:List (Nat×Bool)} (p g o t e:Nat) (v:Value) (vs:List Value) (dst:Option Tmp) {cur:Array Value} {size:Nat}
  (he:Mf n (bS f id) E i=some (.pointer (some ⟨g,o,none⟩),v,t,dst)) (hok:(!ck||okW L0 (Wp.lookup i) [p])=true) (hi:(P.info? t).map (·.size)=some size) (hvs:v.cells.size=size) (Bl:v.cells.toList=vs)
  (hp:h[p]?=some (g,.cells cur e (0,0))) (hl:o+size≤cur.size) (h1:∀u∈vs,u.oneCell'=true)
  (A:JR P f R n (bS f id) L0 ck rest (Wp.filter (·.1 != i)) k (E.put dst (.val undef)) (h.set p (g,.cells (xx cur o vs) e (0,0))) r F Y) :
  JR P f R n (bS f id) L0 ck ((i,false)::rest) Wp k E h r F Y:=by
 subst Bl
 intro BB Hd aU a w s hH hR hN hW
 simp only[PW]
 have hb:w.heap[g]?=some (.cells cur e (0,0)):=s.own.own _ (ae hp)
 obtain⟨inf,qF,hz⟩:=aI.1 hi
 have hrun:=run_storeCells_at (P:=P) g o e v.cells.toList 0 cur w hb (by simpa [hvs]using hl) h1
 rw[rZ hb,dZ]at hrun
 refine Da he s ⟨{ w with heap:=w.heap.setIfInBounds g (.cells (xx cur o v.cells.toList) e (0,0)) },?_,fun a' hA=>je hok hp s hH hR hN hW hA A⟩
 have P5:(Instr.sureAddr (.pointer (some ⟨g,o,none⟩))).run P w=.ok ⟨g,o,none⟩ w:=rfl
 have hst:(storeVar t ⟨g,o,none⟩ v).run P w=.ok () { w with heap:=w.heap.setIfInBounds g (.cells (xx cur o v.cells.toList) e (0,0)) }:=by
  have hsz:(sizeOf t).run P w=.ok size w:=by simp[sizeOf,typeInfo,qF,hz,Result.andThen]
  simp only[storeVar,Sem.run_bind,hsz,Result.andThen_ok]
  rw[if_neg (by simp[hvs])]
  simpa [xx]using hrun
 simp only[Instr.storeAt,Sem.run_bind,P5,Result.andThen_ok,hst]
end rows
theorem Ek {cur:Array Value} {o:Nat} {vs:List Value} (h:o+vs.length≤cur.size):(xx cur o vs).size=cur.size:=by
 simp[xx]
 omega
theorem Row.cut {cur:Array Value} {cap n size:Nat} {xs:List Value} (h:Row cur cap n size xs) {i:Nat} (hi:i≤n):Row cur cap i size (xs.take (i*size)):=by
 have hle:i*size≤n*size:=cD size hi
 refine⟨?_,h.Ei,aZ hi h.le,h.max,?_⟩
 ·rw[bp,h.len]
  omega
 ·rw[←h.take,List.take_take]
  congr 1
  omega
theorem Row.By {cur:Array Value} {cap n size:Nat} {xs vs:List Value} (h:Row cur cap n size xs) {i:Nat} (hi:i<n) (hv:vs.length=size):Row (xx cur (i*size) vs) cap n size (xs.take (i*size)++vs++xs.drop (i*size+size)):=by
 have h1:i*size+size≤n*size:=by
  have:=cD size (jn hi)
  rwa[j1]at this
 have h2:n*size≤cap*size:=cD size h.le
 have hs:=h.Ei
 refine⟨?_,?_,h.le,h.max,?_⟩
 ·simp only[bA,bp,gm,h.len,hv]
  omega
 ·rw[Ek (by omega)]
  exact hs
 ·rw[←h.take]
  apply eH
  intro j
  simp only[xx,cL,kQ,bA,bp,cq,Array.length_toList,hv]
  by_cases hj:j<n*size
  ·rw[if_pos hj]
   have e1:min (i*size) cur.size=i*size:=by omega
   have e2:min (i*size) (min (n*size) cur.size)=i*size:=by omega
   rw[e1,e2]
   by_cases JD:j<i*size
   ·have e3:j<i*size+size:=by omega
    simp[JD,hj,e3]
   ·by_cases hj2:j<i*size+size
    ·simp[JD,hj2]
    ·have hlt:i*size+size+(j - (i*size+size))<n*size:=by omega
     simp[hj2,hlt]
  ·rw[if_neg hj]
   have e2:min (i*size) (min (n*size) cur.size)=i*size:=by omega
   rw[e2]
   have JD:¬j<i*size+size:=by omega
   have WV:¬i*size+size+(j - (i*size+size))<n*size:=by omega
   simp[JD,WV]
theorem Row.L6 {cur:Array Value} {cap n size:Nat} {xs:List Value} (h:Row cur cap n size xs) {j:Nat} {u:Value} (hu:xs[j]?=some u):cur[j]?=some u:=by
 have hj:=(ai.1 hu).1
 rw[h.len]at hj
 rw[h.at hj,hu]
theorem Row.Mq {cur:Array Value} {cap n size:Nat} {xs:List Value} (h:Row cur cap n size xs) (o:Nat) (v:Value):Row (cur.setIfInBounds o v) cap n size (xs.set o v):=
 ⟨by rw[jg,h.len],by rw[Array.size_setIfInBounds,h.Ei],h.le,h.max,by rw[Array.toList_setIfInBounds,List.take_set,h.take]⟩
def kM (xs:List Value) (k:Nat) (rows:List (List D)):Chunk where
 P w S fp:=fp=[]∧gv w S xs k rows
 mono:=by
  intro w w' S S' fp h _ hS
  exact⟨h.1,h.2.mono hS⟩
section PJ
variable {P:Program} {f:Func} [Pan f] {R:Act→World→Prop} {n:Nat} [Dfr n] {kk:List oR} {E:Env} {h r:List (Nat×Obj)} {F:List (List Nat×World)} {Y:fQ}
theorem nH.Qu {a:Act} {w:World} {aU:List (List Nat)} (s:nH n E h r F Y a w aU) (p:Nat) {b:Nat} {o:Obj} (hp:h[p]?=some (b,o)):nH n E (h.eraseIdx p) r F ⟨Y.S,Y.C++[bL b o],Y.G⟩ a w (aU++[[b]]):=by
 have hm:∀x∈h.eraseIdx p,x∈h:=fun x hx=>(cG h p).subset hx
 have kT:∀c,c∈(h.eraseIdx p).map (·.1)→c∈h.map (·.1):=fun c hc=>by
  obtain⟨x,hx,rfl⟩:=aB.1 hc
  exact aB.2 ⟨x,hm x hx,rfl⟩
 have hnot:b∉(h.eraseIdx p).map (·.1):=fun hc=>by
  obtain⟨x,hx,MW⟩:=aB.1 hc
  obtain⟨j,hj,he⟩:=c9.1 hx
  have h1:(h.map (·.1))[j]?=some b:=by simp[he,MW]
  have h2:(h.map (·.1))[p]?=some b:=by simp[hp]
  exact hj ((dQ (ai.1 h1).1 s.own.nodup).1 (h1.trans h2.symm))
 have yg:(b,o)∈h:=ae hp
 have e:(aU++[[b]]).flatten=aU.flatten++[b]:=by simp
 have hS:∀c,Sd Y h aU c→Sd Y (h.eraseIdx p) (aU++[[b]]) c:=fun c hc=>⟨hc.1,fun hx=>hc.2.1 (kT c hx),fun hx=>by
  rw[e]at hx
  rcases au.1 hx with hx|hx
  ·exact hc.2.2 hx
  ·rw[ay]at hx
   subst hx
   exact hc.2.1 (aB.2 ⟨_,yg,rfl⟩)⟩
 have hin:∀c,c∈(aU++[[b]]).flatten→c∈aU.flatten∨c=b:=fun c hc=>by
  rw[e]at hc
  simpa using hc
 refine⟨s.ag,⟨fun x hx=>s.own.own x (hm x hx),((cG h p).map _).nodup s.own.nodup,s.own.ro,fun x hx hc=>s.own.apart x hx (kT _ hc)⟩,s.fr,fun f hf x hx=>s.may f hf x (hm x hx),
  ⟨(s.gh.kF.mono (fun _ _=>rfl) fun c hc _=>⟨hS c hc,rfl⟩).app ⟨⟨rfl,s.own.own _ yg⟩,trivial⟩,?_,fun c hc hx=>?_,fun x hx hc=>?_,fun f hf c hc=>?_,fun c hc=>?_,fun x hx=>s.gh.own x (hm x hx),fun c hc=>?_,s.gh.top,fun x hx=>(s.gh.g x hx).mono fun c hc _=>⟨hS c hc,rfl⟩⟩⟩
 ·rw[e,be]
  refine⟨s.gh.nodup,by simp,fun x hx y hy hxy=>?_⟩
  simp at hy
  subst hy hxy
  exact s.gh.mw _ hx (aB.2 ⟨_,yg,rfl⟩)
 ·rcases hin c hc with h1|rfl
  ·exact s.gh.mw c h1 (kT c hx)
  ·exact hnot hx
 ·rcases hin _ hc with h1|h1
  ·exact s.gh.apart x hx h1
  ·exact s.own.apart x hx (aB.2 ⟨_,yg,h1.symm⟩)
 ·rcases hin c hc with h1|rfl
  ·exact s.gh.may f hf c h1
  ·exact s.may f hf _ yg
 ·rcases hin c hc with h1|rfl
  ·exact s.gh.lt c h1
  ·exact s.own.own.lt yg
 ·rcases hin c hc with h1|rfl
  ·exact s.gh.kT c h1
  ·exact s.gh.own _ yg
end PJ
section more
variable {P:Program} {f:Func} [Pan f] {R:Act→World→Prop} {n:Nat} [Dfr n] {kk:List oR} {E:Env} {h r:List (Nat×Obj)} {F:List (List Nat×World)}
def CP (a:Option Addr) (m c e k:Nat) (rows:List (List D)) (x:Nat×Array Value×List Value):Chunk:=cA [rR (a=some ⟨x.1,0,none⟩∧m=rows.length∧0<k∧Row x.2.1 c rows.length k x.2.2),bL x.1 (.cells x.2.1 e (0,0)),kM x.2.2 k rows]
theorem kj {S0:Nat→Prop} {C0:List Chunk} {G0:List (Value×D)} (q:Nat) {a:Option Addr} {m c e k:Nat} {rows:List (List D)} (hq:C0[q]?=some (aT (.slice a m c) e k rows)) (hne:rows≠[])
  (H:∀g cur xs,a=some ⟨g,0,none⟩→m=rows.length→0<k→Row cur c rows.length k xs→J P f R n kk E (h++[(g,.cells cur e (0,0))]) r F ⟨S0,C0.eraseIdx q++[kM xs k rows],G0⟩):J P f R n kk E h r F ⟨S0,C0,G0⟩:=by
 have hv:(aT (.slice a m c) e k rows).eqv (IY (CP a m c e k rows)):=by
  intro w S fp ⟨hk,hP⟩
  rcases hP with ⟨h1,_⟩|⟨g,cap,cur,xs,h1,rfl,h3,h4,h5⟩
  ·exact absurd h1 hne
  ·cases h1
   have hch:mV w S [rR (some (⟨g,0,none⟩:Addr)=some ⟨g,0,none⟩∧rows.length=rows.length∧0<k∧Row cur c rows.length k xs),bL g (.cells cur e (0,0)),kM xs k rows] [[],[g],[]]:=⟨⟨rfl,rfl,rfl,hk,h4⟩,⟨rfl,h3⟩,⟨rfl,h5⟩,trivial⟩
   exact⟨(g,cur,xs),[[],[g],[]],by simp,hch⟩
 refine bH (j4 q hq hv) ?_
 have wE:=(ai.1 hq).1
 refine b9 (Ax (g:=CP a m c e k rows) q (by rw[bX wE])) fun x _=>?_
 obtain⟨g,cur,xs⟩:=x
 rw[List.set_set]
 refine bH (xk (cs:=[rR (a=some ⟨g,0,none⟩∧m=rows.length∧0<k∧Row cur c rows.length k xs),bL g (.cells cur e (0,0)),kM xs k rows]) q (by rw[bX wE];rfl)) ?_
 have e0:∀y:Chunk,(C0.set q y).eraseIdx q=C0.eraseIdx q:=fun y=>by
  apply eH
  intro j
  rw[dj,dj]
  split
  ·rw[cN (by omega)]
  ·rw[cN (by omega)]
 rw[e0]
 have hl:(C0.eraseIdx q).length=C0.length - 1:=by rw[List.length_eraseIdx,if_pos wE]
 refine b9 (xl (p:=a=some ⟨g,0,none⟩∧m=rows.length∧0<k∧Row cur c rows.length k xs) (C0.eraseIdx q).length (by rw[bt (aX _),ec];rfl)) fun _ hp=>?_
 rw[dM (aX _)]
 simp only[ec,fD]
 refine fh (b:=g) (o:=.cells cur e (0,0)) (C0.eraseIdx q).length (by rw[bt (aX _),ec];rfl) ?_
 rw[dM (aX _)]
 simp only[ec,fD]
 exact H g cur xs hp.1 hp.2.1 hp.2.2.1 hp.2.2.2
theorem jj {S0:Nat→Prop} {C0:List Chunk} {G0:List (Value×D)} (q:Nat) {xs:List Value} {k:Nat} {rows:List (List D)} (hq:C0[q]?=some (kM xs k rows)) (i:Nat) {row:List D} (hrow:rows[i]?=some row) :
  nP h r F ⟨S0,C0,G0⟩ (fun ls:List (Option Addr×Nat)=>ls.length=uw row∧∀(j:Nat) u,(inst row ls)[j]?=some u→xs[i*k+j]?=some u) fun ls=>⟨S0,C0,G0++deep row ls⟩:=by
 intro w aU hO H
 obtain⟨fp,og,_,hP⟩:=H.kF.at hq
 have hu:∀j d,row[j]?=some d→∃u,xs[i*k+j]?=some u∧cm w (Sd ⟨S0,C0,G0⟩ h aU) u d:=fun j d hd=>hP.El i j row d hrow hd
 obtain⟨ls,h1,h2,h3⟩:=nW row (fun j=>xs.getD (i*k+j) undef) fun j d hd=>by
  obtain⟨u,JA,Jz⟩:=hu j d hd
  simpa [aO,JA]using Jz
 refine⟨ls,aU,⟨h1,fun j u hj=>?_⟩,fun _ hb=>hb,H.less (fun _ hb=>hb) H.nodup H.kF fun x hx=>?_⟩
 ·have oP:j<row.length:=by
   have:=(ai.1 hj).1
   rwa[jD]at this
  obtain⟨u',JA,_⟩:=hu j _ (ak oP)
  have:=h2 j u hj
  rw[this]
  simp[aO,JA]
 ·rcases au.1 hx with hx|hx
  ·exact H.g x hx
  ·exact h3 x hx
theorem gv.set {w:World} {S:Nat→Prop} {xs:List Value} {k:Nat} {rows:List (List D)} (h:gv w S xs k rows) (hl:xs.length=rows.length*k) {i j:Nat} {row:List D} {v:Value} {d:D} (hrow:rows[i]?=some row) (hj:j<k) (hv:cm w S v d) :
  gv w S (xs.set (i*k+j) v) k (rows.set i (row.set j d)):=by
 have vM:=(ai.1 hrow).1
 refine⟨fun row' hr=>?_,fun i' j' row' d' hi' hj'=>?_⟩
 ·rcases jc hr with hr|rfl
  ·exact h.len row' hr
  ·rw[jg]
   exact h.len row (ae hrow)
 ·by_cases N6:i=i'
  ·subst N6
   rw[bX vM]at hi'
   cases hi'
   by_cases VI:j=j'
   ·subst VI
    have oP:=(ai.1 hj').1
    rw[jg]at oP
    rw[bX oP]at hj'
    cases hj'
    exact⟨v,by rw[bX (by rw[hl];exact xW vM hj)],hv⟩
   ·rw[cN VI]at hj'
    obtain⟨u,h1,h2⟩:=h.El i j' row d' hrow hj'
    exact⟨u,by rw[cN (by omega)];exact h1,h2⟩
  ·rw[cN N6]at hi'
   obtain⟨u,h1,h2⟩:=h.El i' j' row' d' hi' hj'
   have oP:j'<k:=by
    rw[←h.len row' (ae hi')]
    exact(ai.1 hj').1
   refine⟨u,?_,h2⟩
   rw[cN ?_]
   ·exact h1
   ·intro he
    rcases Nat.lt_or_gt_of_ne N6 with h3|h3
    ·have:=cD k (jn h3)
     rw[j1]at this
     omega
    ·have:=cD k (jn h3)
     rw[j1]at this
     omega
theorem q9 {S0:Nat→Prop} {C0:List Chunk} {G0:List (Value×D)} (q p i j:Nat) {xs:List Value} {k:Nat} {rows:List (List D)} {row:List D} {v:Value} {d:D} (hq:C0[q]?=some (kM xs k rows)) (hl:xs.length=rows.length*k) (hrow:rows[i]?=some row) (hj:j<k) (hp:G0[p]?=some (v,d)) :
  nP h r F ⟨S0,C0,G0⟩ (fun _:Unit=>True) fun _=>⟨S0,C0.set q (kM (xs.set (i*k+j) v) k (rows.set i (row.set j d))),G0⟩:=by
 intro w aU hO H
 obtain⟨fp,og,uN,hP⟩:=H.kF.at hq
 have hc:(kM (xs.set (i*k+j) v) k (rows.set i (row.set j d))).P w (Sd ⟨S0,C0,G0⟩ h aU) fp:=⟨uN,hP.set hl hrow hj (H.g _ (ae hp))⟩
 have hs:=H.kF.set hc (i:=q)
 have e:aU.set q fp=aU:=kG og
 rw[e]at hs
 exact⟨(),aU,trivial,fun _ hb=>hb,H.less (fun _ hb=>hb) H.nodup hs H.g⟩
theorem gw {S0:Nat→Prop} {C0:List Chunk} {G0:List (Value×D)} (q1 q2:Nat) {g c e k:Nat} {cur:Array Value} {xs:List Value} {rows:List (List D)} (h1:C0[q1]?=some (bL g (.cells cur e (0,0)))) (h2:C0[q2]?=some (kM xs k rows)) (hrow:Row cur c rows.length k xs) (hk:0<k) :
  nP h r F ⟨S0,C0,G0⟩ (fun _:Unit=>True) fun _=>⟨S0,pick C0 (others C0.length [q1,q2])++[aT (.slice (some ⟨g,0,none⟩) rows.length c) e k rows],G0⟩:=by
 intro w aU hO H
 obtain⟨Ur,Np,rfl,hb⟩:=H.kF.at h1
 obtain⟨VY,JE,rfl,hR⟩:=H.kF.at h2
 have hlen:=H.kF.len
 have wF:q1<C0.length:=(ai.1 h1).1
 have hnd:(others C0.length [q1,q2]++[q1]).Nodup:=by
  rw[be]
  refine⟨l9 dw jJ,by simp,fun x hx y hy hxy=>?_⟩
  simp only[ay]at hy
  subst hy hxy
  simp[others]at hx
 have hE:pick aU (others C0.length [q1,q2])++[[g]]=pick aU (others C0.length [q1,q2]++[q1]):=by
  rw[uy]
  simp[pick,Np]
 have hsub:∀b∈(pick aU (others C0.length [q1,q2])++[[g]]).flatten,b∈aU.flatten:=fun b hb=>by
  rw[hE]at hb
  exact bu hb
 have hS:∀b,Sd ⟨S0,C0,G0⟩ h aU b→Sd ⟨S0,C0,G0⟩ h (pick aU (others C0.length [q1,q2])++[[g]]) b:=fun b hb=>mQ hsub hb
 refine⟨(),_,trivial,hsub,H.less hsub (by rw[hE];exact fI H.nodup hnd) ?_ fun x hx=>(H.g x hx).mono fun b hb _=>⟨hS b hb,rfl⟩⟩
 have hc:(aT (.slice (some ⟨g,0,none⟩) rows.length c) e k rows).P w (Sd ⟨S0,C0,G0⟩ h (pick aU (others C0.length [q1,q2])++[[g]])) [g]:=⟨hk,.inr ⟨g,c,cur,xs,rfl,rfl,hb,hrow,hR.mono fun b hb _=>⟨hS b hb,rfl⟩⟩⟩
 exact((H.kF.pick _).mono (fun _ _=>rfl) fun b hb _=>⟨hS b hb,rfl⟩).app (show mV w _ [_] [[g]] from⟨hc,trivial⟩)
theorem I5 (b e k:Nat) (hk:0<k):(bL b (.cells #[] e (0,0))).eqv (aT (.slice (some ⟨b,0,none⟩) 0 0) e k []):=fun w S fp h=>
 ⟨hk,.inr ⟨b,0,#[],[],rfl,h.1,h.2,⟨by simp,by simp,aX _,eo _,by simp⟩,gv.nil _ _ _ _⟩⟩
theorem Ls {S0:Nat→Prop} {C0:List Chunk} {G0:List (Value×D)} {ops:Array Oper} {L0:Nat} {ck:Bool} {fb:List (Nat×Bool)} {Wp:List (Nat×List Nat)} (p k:Nat) {b e:Nat} (hp:h[p]?=some (b,.cells #[] e (0,0))) (hL:po L0 p=true) (hk:0<k)
  (H:JR P f R n ops L0 ck fb Wp kk E (h.eraseIdx p) r F ⟨S0,C0++[aT (.slice (some ⟨b,0,none⟩) 0 0) e k []],G0⟩):JR P f R n ops L0 ck fb Wp kk E h r F ⟨S0,C0,G0⟩:=by
 have H2:JR P f R n ops L0 ck fb Wp kk E (h.eraseIdx p) r F ⟨S0,C0++[bL b (.cells #[] e (0,0))],G0⟩:=by
  refine Jk (j4 C0.length (by simp) (I5 b e k hk)) ?_
  simpa using H
 intro B Hd aU a w s hH Iy hN hW
 have VQ:=bP hL
 have pS:=(ai.1 hp).1
 have hsame:∀i:Nat,i<L0→(h.eraseIdx p)[i]?=h[i]?:=fun i hi=>by rw[dj];simp[show i<p by omega]
 have sM:kp Hd (h.eraseIdx p) Wp=kp Hd h Wp:=by
  unfold kp
  refine cB fun y hy=>?_
  congr 2
  have h1:=dF.1 hW y hy
  exact mN _ _ _ fun q hq=>by rw[hsame q (Bd (dF.1 h1 q hq))]
 have:=H2 B Hd _ a w (s.Qu p hp) (fun c hc=>by
  rw[bj]at hc
  rcases au.1 hc with hc|hc
  ·exact hH c hc
  ·simp only[cr,lj,bf,ay]at hc
   subst hc
   exact .inr (hN p VQ _ hp)) ⟨fun i hi x hx=>Iy.old i hi x (by rw[←hsame i hi];exact hx),Iy.ro,by rw[List.length_eraseIdx];simp only[pS,if_true];have:=Iy.len;omega,Iy.size⟩ (fun j hj x hx=>by
  rw[dj]at hx
  split at hx
  ·exact hN j hj x hx
  ·exact hN (j+1) (by omega) x hx) hW
 rwa[sM]at this
theorem vg {β:Type} (enc:β→List D) {S0:Nat→Prop} {C0:List Chunk} {G0:List (Value×D)} {ops:Array Oper} {L0:Nat} {ck:Bool} {fb:List (Nat×Bool)} {Wp:List (Nat×List Nat)} (p k:Nat) {b e:Nat} (hp:h[p]?=some (b,.cells #[] e (0,0))) (hL:po L0 p=true) (hk:0<k)
  (H:JR P f R n ops L0 ck fb Wp kk E (h.eraseIdx p) r F ⟨S0,C0++[aT (.slice (some ⟨b,0,none⟩) 0 0) e k (([]:List β).map enc)],G0⟩):JR P f R n ops L0 ck fb Wp kk E h r F ⟨S0,C0,G0⟩:=Ls p k hp hL hk H
end more
end Go.Sx
end
section
namespace Go.Sx
open Go Go.MapKept
open Classical in
noncomputable def FF {α:Type} (K:Value→Option α) (key:Value) (row:α):Value→Option α:=fun x=>if x=key then some row else K x
open Classical in
noncomputable def FJ {α:Type} (K:Value→Option α) (key:Value):Value→Option α:=fun x=>if x=key then none else K x
def CQ (w:World) (S:Nat→Prop) (g:Value→Option Value) (K:Value→Option (List D)):Prop:=
 (∀key,K key=none→g key=none)∧∀key row,K key=some row→∃us:List Value,g key=some (.agg us.toArray)∧us.length=row.length∧∀(j:Nat) d,row[j]?=some d→∃u,us[j]?=some u∧cm w S u d
theorem CQ.mono {w w':World} {S S':Nat→Prop} {g:Value→Option Value} {K:Value→Option (List D)} (h:CQ w S g K) (hS:∀b,S b→b<w.heap.size→S' b∧w'.heap[b]?=w.heap[b]?):CQ w' S' g K:=
 ⟨h.1,fun key row hr=>by
  obtain⟨us,h1,h2,h3⟩:=h.2 key row hr
  exact⟨us,h1,h2,fun j d hd=>by
   obtain⟨u,h4,h5⟩:=h3 j d hd
   exact⟨u,h4,h5.mono hS⟩⟩⟩
def oI (g:Value→Option Value) (K:Value→Option (List D)):Chunk where
 P w S fp:=fp=[]∧CQ w S g K
 mono:=by
  intro w w' S S' fp h _ hS
  exact⟨h.1,h.2.mono hS⟩
def yG (b:Nat) (d:TypeDesc) (K:Value→Option (List D)):Chunk where
 P w S fp:=fp=[b]∧∃es clock g,w.heap[b]?=some (.map es clock)∧gP d es g∧CQ w S g K
 mono:=by
  intro w w' S S' fp ⟨h,es,clock,g,h1,h2,h3⟩ hb hS
  exact⟨h,es,clock,g,(hb _ (by rw[h];simp)).trans h1,h2,h3.mono hS⟩
theorem HU (mb clock:Nat) (d:TypeDesc):(bL mb (.map #[] clock)).eqv (yG mb d fun _=>none):=fun _ _ _ h=>
 ⟨h.1,#[],clock,fun _=>none,h.2,gP.empty d,fun _ _=>rfl,fun _ _ hk=>by cases hk⟩
section more
variable {P:Program} {f:Func} [Pan f] {R:Act→World→Prop} {n:Nat} [Dfr n] {kk:List oR} {E:Env} {h r:List (Nat×Obj)} {F:List (List Nat×World)}
def Cc (b:Nat) (d:TypeDesc) (K:Value→Option (List D)) (x:Array MapEntry×Nat×(Value→Option Value)):Chunk:=cA [rR (gP d x.1 x.2.2),bL b (.map x.1 x.2.1),oI x.2.2 K]
theorem Gr {S0:Nat→Prop} {C0:List Chunk} {G0:List (Value×D)} (q:Nat) {b:Nat} {d:TypeDesc} {K:Value→Option (List D)} (hq:C0[q]?=some (yG b d K))
  (H:∀es clock g,gP d es g→J P f R n kk E (h++[(b,.map es clock)]) r F ⟨S0,C0.eraseIdx q++[oI g K],G0⟩):J P f R n kk E h r F ⟨S0,C0,G0⟩:=by
 have hv:(yG b d K).eqv (IY (Cc b d K)):=by
  intro w S fp ⟨og,es,clock,g,h1,h2,h3⟩
  subst og
  have hch:mV w S [rR (gP d es g),bL b (.map es clock),oI g K] [[],[b],[]]:=⟨⟨rfl,h2⟩,⟨rfl,h1⟩,⟨rfl,h3⟩,trivial⟩
  exact⟨(es,clock,g),[[],[b],[]],by simp,hch⟩
 refine bH (j4 q hq hv) ?_
 have wE:=(ai.1 hq).1
 refine b9 (Ax (g:=Cc b d K) q (by rw[bX wE])) fun x _=>?_
 obtain⟨es,clock,g⟩:=x
 rw[List.set_set]
 refine bH (xk (cs:=[rR (gP d es g),bL b (.map es clock),oI g K]) q (by rw[bX wE];rfl)) ?_
 have e0:∀y:Chunk,(C0.set q y).eraseIdx q=C0.eraseIdx q:=fun y=>by
  apply eH
  intro j
  rw[dj,dj]
  split
  ·rw[cN (by omega)]
  ·rw[cN (by omega)]
 rw[e0]
 refine b9 (xl (p:=gP d es g) (C0.eraseIdx q).length (by rw[bt (aX _),ec];rfl)) fun _ hp=>?_
 rw[dM (aX _)]
 simp only[ec,fD]
 refine fh (b:=b) (o:=.map es clock) (C0.eraseIdx q).length (by rw[bt (aX _),ec];rfl) ?_
 rw[dM (aX _)]
 simp only[ec,fD]
 exact H es clock g hp
theorem qt {S0:Nat→Prop} {C0:List Chunk} {G0:List (Value×D)} (q:Nat) {g:Value→Option Value} {K:Value→Option (List D)} (hq:C0[q]?=some (oI g K)) (key:Value) {row:List D} (hrow:K key=some row) :
  nP h r F ⟨S0,C0,G0⟩ (fun ls:List (Option Addr×Nat)=>ls.length=uw row∧g key=some (.agg (inst row ls).toArray)) fun ls=>⟨S0,C0,G0++deep row ls⟩:=by
 intro w aU hO H
 obtain⟨fp,og,_,hP⟩:=H.kF.at hq
 obtain⟨us,h1,h2,h3⟩:=hP.2 key row hrow
 obtain⟨ls,h4,h5,h6⟩:=nW row (fun j=>us.getD j undef) fun j d hd=>by
  obtain⟨u,JA,Jz⟩:=h3 j d hd
  simpa [aO,JA]using Jz
 have e:inst row ls=us:=by
  apply eH
  intro j
  by_cases hj:j<us.length
  ·have hj2:j<(inst row ls).length:=by rw[jD,←h2];exact hj
   have:=h5 j _ (ak hj2)
   rw[ak hj2,this]
   simp[aO,ak hj]
  ·rw[cO (by rw[jD,←h2];omega),cO (by omega)]
 refine⟨ls,aU,⟨h4,by rw[e];exact h1⟩,fun _ hb=>hb,H.less (fun _ hb=>hb) H.nodup H.kF fun x hx=>?_⟩
 rcases au.1 hx with hx|hx
 ·exact H.g x hx
 ·exact h6 x hx
theorem BD {S0:Nat→Prop} {C0:List Chunk} {G0:List (Value×D)} (q:Nat) {g:Value→Option Value} {K:Value→Option (List D)} (hq:C0[q]?=some (oI g K)) (key:Value) {us:List Value} {row:List D} (hR:qV G0 us row) :
  nP h r F ⟨S0,C0,G0⟩ (fun _:Unit=>True) fun _=>⟨S0,C0.set q (oI (lK g key (.agg us.toArray)) (FF K key row)),G0⟩:=by
 intro w aU hO H
 obtain⟨fp,og,uN,hP⟩:=H.kF.at hq
 have hc:(oI (lK g key (.agg us.toArray)) (FF K key row)).P w (Sd ⟨S0,C0,G0⟩ h aU) fp:=by
  refine⟨uN,fun x hx=>?_,fun x row' hx=>?_⟩
  ·unfold FF at hx
   split at hx
   ·cases hx
   ·rename_i hne
    rw[lK,if_neg hne]
    exact hP.1 x hx
  ·unfold FF at hx
   split at hx
   ·rename_i he
    cases hx
    exact⟨us,by rw[lK,if_pos he],hR.len,fun j d hd=>hR.at H.g j d hd⟩
   ·rename_i hne
    rw[lK,if_neg hne]
    exact hP.2 x row' hx
 have hs:=H.kF.set hc (i:=q)
 have e:aU.set q fp=aU:=kG og
 rw[e]at hs
 exact⟨(),aU,trivial,fun _ hb=>hb,H.less (fun _ hb=>hb) H.nodup hs H.g⟩
theorem wc {S0:Nat→Prop} {C0:List Chunk} {G0:List (Value×D)} (q:Nat) {g:Value→Option Value} {K:Value→Option (List D)} (hq:C0[q]?=some (oI g K)) (key:Value) :
  nP h r F ⟨S0,C0,G0⟩ (fun _:Unit=>True) fun _=>⟨S0,C0.set q (oI (pU g key) (FJ K key)),G0⟩:=by
 intro w aU hO H
 obtain⟨fp,og,uN,hP⟩:=H.kF.at hq
 have hc:(oI (pU g key) (FJ K key)).P w (Sd ⟨S0,C0,G0⟩ h aU) fp:=by
  refine⟨uN,fun x hx=>?_,fun x row' hx=>?_⟩
  ·unfold FJ at hx
   split at hx
   ·rename_i he
    rw[pU,if_pos he]
   ·rename_i hne
    rw[pU,if_neg hne]
    exact hP.1 x hx
  ·unfold FJ at hx
   split at hx
   ·cases hx
   ·rename_i hne
    rw[pU,if_neg hne]
    exact hP.2 x row' hx
 have hs:=H.kF.set hc (i:=q)
 have e:aU.set q fp=aU:=kG og
 rw[e]at hs
 exact⟨(),aU,trivial,fun _ hb=>hb,H.less (fun _ hb=>hb) H.nodup hs H.g⟩
theorem kV {S0:Nat→Prop} {C0:List Chunk} {G0:List (Value×D)} (q1 q2:Nat) {mb clock:Nat} {d:TypeDesc} {es:Array MapEntry} {g:Value→Option Value} {K:Value→Option (List D)} (h1:C0[q1]?=some (bL mb (.map es clock))) (h2:C0[q2]?=some (oI g K)) (hm:gP d es g) :
  nP h r F ⟨S0,C0,G0⟩ (fun _:Unit=>True) fun _=>⟨S0,pick C0 (others C0.length [q1,q2])++[yG mb d K],G0⟩:=by
 intro w aU hO H
 obtain⟨Ur,Np,rfl,hb⟩:=H.kF.at h1
 obtain⟨VY,JE,rfl,hR⟩:=H.kF.at h2
 have hlen:=H.kF.len
 have wF:q1<C0.length:=(ai.1 h1).1
 have hnd:(others C0.length [q1,q2]++[q1]).Nodup:=by
  rw[be]
  refine⟨l9 dw jJ,by simp,fun x hx y hy hxy=>?_⟩
  simp only[ay]at hy
  subst hy hxy
  simp[others]at hx
 have hE:pick aU (others C0.length [q1,q2])++[[mb]]=pick aU (others C0.length [q1,q2]++[q1]):=by
  rw[uy]
  simp[pick,Np]
 have hsub:∀b∈(pick aU (others C0.length [q1,q2])++[[mb]]).flatten,b∈aU.flatten:=fun b hb=>by
  rw[hE]at hb
  exact bu hb
 have hS:∀b,Sd ⟨S0,C0,G0⟩ h aU b→Sd ⟨S0,C0,G0⟩ h (pick aU (others C0.length [q1,q2])++[[mb]]) b:=fun b hb=>mQ hsub hb
 refine⟨(),_,trivial,hsub,H.less hsub (by rw[hE];exact fI H.nodup hnd) ?_ fun x hx=>(H.g x hx).mono fun b hb _=>⟨hS b hb,rfl⟩⟩
 have hc:(yG mb d K).P w (Sd ⟨S0,C0,G0⟩ h (pick aU (others C0.length [q1,q2])++[[mb]])) [mb]:=⟨rfl,es,clock,g,hb,hm,hR.mono fun b hb _=>⟨hS b hb,rfl⟩⟩
 exact((H.kF.pick _).mono (fun _ _=>rfl) fun b hb _=>⟨hS b hb,rfl⟩).app (show mV w _ [_] [[mb]] from⟨hc,trivial⟩)
end more
end Go.Sx
end
section
namespace Go.Sx
open Go
abbrev eB (b:UInt8):List D:=[.v (.int .u8 b.toNat)]
abbrev A5 (s:ByteArray):D:=.sl 1 (s.data.toList.map eB)
def F6 (n:Nat) (ops:Array Oper) (E:Env) (i:Nat):Option (TypeId×TypeId×Value×Option Tmp×List Ob):=
 match ops[i]? with
 | none=>none
 | some o=>if nT n o.dst&&!zX o.op then match (match o.guard with
   | none=>some (none,[])
   | some (j,want)=>(guardOf E ops j).map fun c=>(some (c,want),[.bb c want]))with
  | none=>none
  | some (cd,g)=>match jN E cd o.op.operands.toList with
   | none=>none
   | some q=>match o.op with
    | .convert src dt x=>some (src,dt,mG E x,o.dst,g++q)
    | _=>none
  else none
def Kq (n:Nat) (ops:Array Oper) (E:Env) (i:Nat):Option (TypeId×Value×Value×Option Tmp×List Ob):=
 match ops[i]? with
 | none=>none
 | some o=>if nT n o.dst&&!zX o.op then match (match o.guard with
   | none=>some (none,[])
   | some (j,want)=>(guardOf E ops j).map fun c=>(some (c,want),[.bb c want]))with
  | none=>none
  | some (cd,g)=>match jN E cd o.op.operands.toList with
   | none=>none
   | some q=>match o.op with
    | .index t x ix=>some (t,mG E x,mG E ix,o.dst,g++q)
    | _=>none
  else none
def CA (x:Option (TypeId×TypeId×Value×Option Tmp×List Ob)):Option (TypeId×TypeId×Value×Option Tmp)×(List Nat×List Bool×List (Option Nat))×Nat:=match x with
 | some y=>(some (y.1,y.2.1,y.2.2.1,y.2.2.2.1),AN y.2.2.2.2,(Kb y.2.2.2.2).length)
 | none=>(none,([],[],[]),0)
def Au (x:Option (TypeId×TypeId×Value×Option Tmp×List Ob)):List Nat×List Bool×List (Option Nat):=match x with
 | some y=>AM y.2.2.2.2
 | none=>([],[],[])
theorem Cz {x:Option (TypeId×TypeId×Value×Option Tmp×List Ob)} {src dt:TypeId} {v:Value} {dst:Option Tmp} (h:CA x=(some (src,dt,v,dst),Au x,0)):∃p,x=some (src,dt,v,dst,p)∧th p:=by
 cases x with
 | none=>simp[CA]at h
 | some y=>
  obtain⟨a,b,c,d,p⟩:=y
  simp only[CA,Au,aH,az]at h
  obtain⟨⟨rfl,rfl,rfl,rfl⟩,h2,h3⟩:=h
  refine⟨p,rfl,oM p h2 ?_⟩
  rw[ct h3]
  trivial
def EJ (x:Option (TypeId×Value×Value×Option Tmp×List Ob)):Option (TypeId×Value×Value×Option Tmp)×(List Nat×List Bool×List (Option Nat))×Nat:=match x with
 | some y=>(some (y.1,y.2.1,y.2.2.1,y.2.2.2.1),AN y.2.2.2.2,(Kb y.2.2.2.2).length)
 | none=>(none,([],[],[]),0)
def C4 (x:Option (TypeId×Value×Value×Option Tmp×List Ob)):List Nat×List Bool×List (Option Nat):=match x with
 | some y=>AM y.2.2.2.2
 | none=>([],[],[])
theorem Cy {x:Option (TypeId×Value×Value×Option Tmp×List Ob)} {src:TypeId} {dt v:Value} {dst:Option Tmp} (h:EJ x=(some (src,dt,v,dst),C4 x,0)):∃p,x=some (src,dt,v,dst,p)∧th p:=by
 cases x with
 | none=>simp[EJ]at h
 | some y=>
  obtain⟨a,b,c,d,p⟩:=y
  simp only[EJ,C4,aH,az]at h
  obtain⟨⟨rfl,rfl,rfl,rfl⟩,h2,h3⟩:=h
  refine⟨p,rfl,oM p h2 ?_⟩
  rw[ct h3]
  trivial
section
variable {P:Program} {f:Func} [Pan f] {R:Act→World→Prop} {n:Nat} [Dfr n] {k:List oR} {E:Env} {h r:List (Nat×Obj)} {F:List (List Nat×World)} {Y:fQ}
theorem DQ {ops:Array Oper} {i:Nat} {src dt:TypeId} {xv:Value} {dst:Option Tmp} {p:List Ob} (he:F6 n ops E i=some (src,dt,xv,dst,p)) (hp:th p)
  {a:Act} {w:World} {aU:List (List Nat)} (s:nH n E h r F Y a w aU) {K:Act→World→Prop} {Q:Exit→Act→World→Prop}
  (H:∃v' w',(convert src dt xv).run P w=.ok v' w'∧∀a',Ag n (E.put dst (.val v')) a'→K a' w'):wpOp P ops Q i K a w:=by
 unfold F6 at he
 split at he
 ·cases he
 rename_i o ho
 split at he
 case isFalse=>cases he
 rename_i hd
 simp only[bT,kD]at hd
 split at he
 ·cases he
 rename_i cd g hg
 split at he
 ·cases he
 rename_i q hq
 split at he
 case h_2=>cases he
 rename_i src' VZ x hc
 simp only[az,aH]at he
 obtain⟨rfl,rfl,rfl,rfl,rfl⟩:=he
 obtain⟨hg1,wF⟩:=gj hp
 have rC:Region.wanted o (yielded ops a.tmps)=true∧∀c wn,cd=some (c,wn)→c=wn:=by
  cases hgd:o.guard with
  | none=>
   rw[hgd]at hg
   simp only[az,aH]at hg
   refine⟨by simp[Region.wanted,hgd],fun c wn h=>?_⟩
   rw[←hg.1]at h
   cases h
  | some y=>
   obtain⟨j,want⟩:=y
   rw[hgd]at hg
   obtain⟨c,hc,It⟩:=aI.1 hg
   simp only[aH]at It
   obtain⟨rfl,rfl⟩:=It
   have hy:=ki s.ag hc
   have vl:c=want:=hg1.1
   refine⟨by simp[Region.wanted,hgd,hy,vl],fun c' wn h=>?_⟩
   injection h with h
   injection h with h1 h2
   rw[←h1,←h2]
   exact vl
 unfold wpOp
 simp only[ho]
 rw[if_pos rC.1]
 refine .inl ?_
 obtain⟨v',w',hrun,hk⟩:=H
 unfold Oper.wp
 have pF:execOp a.eval o=execOp (mG E) o:=execOp_congr o (fun cs b hc=>by have:=hd.2;rw[hc]at this;cases this) (fun x hx=>eG s.ag rC.2 _ _ hq wF x (by simpa using hx))
 rw[pF]
 unfold execOp
 simp only[hc,Sem.run_bind,hrun,Result.andThen_ok,Sem.run_pure]
 exact hk _ (s.ag.put hd.1 (.val v'))
theorem Dx {ops:Array Oper} {i:Nat} {src:TypeId} {dt xv:Value} {dst:Option Tmp} {p:List Ob} (he:Kq n ops E i=some (src,dt,xv,dst,p)) (hp:th p)
  {a:Act} {w:World} {aU:List (List Nat)} (s:nH n E h r F Y a w aU) {K:Act→World→Prop} {Q:Exit→Act→World→Prop}
  (H:∃v' w',(Instr.index src dt xv).run P w=.ok v' w'∧∀a',Ag n (E.put dst (.val v')) a'→K a' w'):wpOp P ops Q i K a w:=by
 unfold Kq at he
 split at he
 ·cases he
 rename_i o ho
 split at he
 case isFalse=>cases he
 rename_i hd
 simp only[bT,kD]at hd
 split at he
 ·cases he
 rename_i cd g hg
 split at he
 ·cases he
 rename_i q hq
 split at he
 case h_2=>cases he
 rename_i src' VZ x hc
 simp only[az,aH]at he
 obtain⟨rfl,rfl,rfl,rfl,rfl⟩:=he
 obtain⟨hg1,wF⟩:=gj hp
 have rC:Region.wanted o (yielded ops a.tmps)=true∧∀c wn,cd=some (c,wn)→c=wn:=by
  cases hgd:o.guard with
  | none=>
   rw[hgd]at hg
   simp only[az,aH]at hg
   refine⟨by simp[Region.wanted,hgd],fun c wn h=>?_⟩
   rw[←hg.1]at h
   cases h
  | some y=>
   obtain⟨j,want⟩:=y
   rw[hgd]at hg
   obtain⟨c,hc,It⟩:=aI.1 hg
   simp only[aH]at It
   obtain⟨rfl,rfl⟩:=It
   have hy:=ki s.ag hc
   have vl:c=want:=hg1.1
   refine⟨by simp[Region.wanted,hgd,hy,vl],fun c' wn h=>?_⟩
   injection h with h
   injection h with h1 h2
   rw[←h1,←h2]
   exact vl
 unfold wpOp
 simp only[ho]
 rw[if_pos rC.1]
 refine .inl ?_
 obtain⟨v',w',hrun,hk⟩:=H
 unfold Oper.wp
 have pF:execOp a.eval o=execOp (mG E) o:=execOp_congr o (fun cs b hc=>by have:=hd.2;rw[hc]at this;cases this) (fun x hx=>eG s.ag rC.2 _ _ hq wF x (by simpa using hx))
 rw[pF]
 unfold execOp
 simp only[hc,Sem.run_bind,hrun,Result.andThen_ok,Sem.run_pure]
 exact hk _ (s.ag.put hd.1 (.val v'))
theorem Gy {id L0 i:Nat} {ck:Bool} {Wp:List (Nat×List Nat)} {rest:List (Nat×Bool)} (src dt e:TypeId) (s:ByteArray) (dst:Option Tmp)
  (he:CA (F6 n (bS f id) E i)=(some (src,dt,.string s,dst),Au (F6 n (bS f id) E i),0)) (hs:P.underlying src=some .string) (hd:P.underlying dt=some (.slice e)) (hb:P.underlying e=some (.int .u8))
  (A:∀g c,JR P f R n (bS f id) L0 ck rest (Wp.filter (·.1 != i)) k (E.put dst (.val (.slice (some ⟨g,0,none⟩) s.size c))) h r F ⟨Y.S,Y.C++[],Y.G++[(.slice (some ⟨g,0,none⟩) s.size c,A5 s)]⟩) :
  JR P f R n (bS f id) L0 ck ((i,false)::rest) Wp k E h r F Y:=by
 obtain⟨p,he,hp⟩:=Cz he
 intro B Hd aU a w st hH hR hN hW
 simp only[PW]
 have hold:∀b,b<w.heap.size→(Lib.bytesWorld w e s).heap[b]?=w.heap[b]?:=fun b hlt=>Lib.bytesWorld_at_old w e s b hlt
 have hf:Fr [] w (Lib.bytesWorld w e s):=⟨rfl,rfl,rfl,by rw[Lib.bytesWorld_size];omega,fun b hlt _=>hold b hlt,mm _⟩
 have hnew:=Lib.bytesWorld_at_new w e s
 have hlen:(s.data.toList.map eB).length=s.size:=by simp
 have hcap:s.size≤grownCap w s.size 0 e:=grownCap_ge _ _ _ _
 have mL:cm (Lib.bytesWorld w e s) (l5 (Sd Y h aU) [] w []) (.slice (some ⟨w.heap.size,0,none⟩) s.size (grownCap w s.size 0 e)) (A5 s):=by
  have:=cm.sl (w:=Lib.bytesWorld w e s) (S:=l5 (Sd Y h aU) [] w []) (off:=0) (cap:=grownCap w s.size 0 e) (k:=1) (rows:=s.data.toList.map eB) (fun i _=>.int .u8 (s.data.toList.getD i 0).toNat) hnew ⟨.inr (.inr (aX _)),by simp⟩ (by rw[hlen];exact hcap) (by decide) (by intro row hr;obtain⟨x,_,rfl⟩:=aB.1 hr;rfl) (fun i j hi hj=>?_) (fun i j row d hi hj=>?_)
  ·rwa[hlen]at this
  ·obtain rfl:j=0:=by omega
   rw[hlen]at hi
   have h1:i<s.data.toList.length:=by simpa using hi
   have h2:i<s.data.size:=by simpa using hi
   simp[Lib.bytesCells,iY,hi,h2,aO]
  ·rw[aF]at hi
   obtain⟨x,hx,rfl⟩:=aI.1 hi
   match j,hj with
   | 0,hj=>
    simp only[aV,az]at hj
    subst hj
    rw[aO,hx]
    exact .v rfl
   | j+1,hj=>simp at hj
 have wH:cQ (pick aU []).flatten w (Sd Y h aU) (Lib.bytesWorld w e s) (.returned (.slice (some ⟨w.heap.size,0,none⟩) s.size (grownCap w s.size 0 e))) (.slice (some ⟨w.heap.size,0,none⟩) s.size (grownCap w s.size 0 e)) [] [(.slice (some ⟨w.heap.size,0,none⟩) s.size (grownCap w s.size 0 e),A5 s)]:=
  ⟨rfl,hf,[],trivial,by simp,by simp,fun x hx=>by rw[ay]at hx;subst hx;exact mL⟩
 refine DQ he hp st ⟨_,_,Lib.run_convert_string_bytes w src dt e s hs hd hb,fun a2 hA=>⟨fun uQ b oQ hl=>hold b oQ,?_⟩⟩
 rw[jP]
 obtain⟨gE,h3,s'⟩:=st.called (cs:=[]) hA wH
 have hpk:pick Y.C (others Y.C.length [])=Y.C:=by
  have h1:others Y.C.length []=bD Y.C.length:=by simp[others]
  rw[h1,uz]
 rw[hpk]at s'
 refine A w.heap.size (grownCap w s.size 0 e) B Hd _ a2 _ s' (fun b hb=>?_) ⟨hR.old,hR.ro,hR.len,aZ hR.size hf.size⟩ hN (gT hW)
 rw[bj]at hb
 rcases au.1 hb with hb|hb
 ·exact hH b (bu hb)
 ·rcases h3 b hb with h1|h1
  ·exact hH b (bu h1)
  ·exact .inr (aZ hR.size h1)
theorem Jp {S0:Nat→Prop} {C0:List Chunk} {G0:List (Value×D)} {id L0 i:Nat} {ck:Bool} {Wp:List (Nat×List Nat)} {rest:List (Nat×Bool)} (src dt e:TypeId) (s:ByteArray) (dst:Option Tmp)
  (he:CA (F6 n (bS f id) E i)=(some (src,dt,.string s,dst),Au (F6 n (bS f id) E i),0)) (hs:P.underlying src=some .string) (hd:P.underlying dt=some (.slice e)) (hb:P.underlying e=some (.int .u8))
  (A:∀g c,JR P f R n (bS f id) L0 ck rest (Wp.filter (·.1 != i)) k (E.put dst (.val (.slice (some ⟨g,0,none⟩) s.size c))) h r F ⟨S0,C0,G0++[(.slice (some ⟨g,0,none⟩) s.size c,A5 s)]⟩) :
  JR P f R n (bS f id) L0 ck ((i,false)::rest) Wp k E h r F ⟨S0,C0,G0⟩:=Gy (Y:=⟨S0,C0,G0⟩) src dt e s dst he hs hd hb fun g c=>by
 have:=A g c
 simpa using this
theorem Gc {s:ByteArray} {i:Nat} {b:UInt8} (h:s.data.toList[i]?=some b):s[i]?=some b:=by
 obtain⟨hi,he⟩:=ai.1 h
 have h1:i<s.size:=by simpa using hi
 rw[getElem?_pos s i h1]
 congr 1
theorem NW {id L0 j:Nat} {ck:Bool} {Wp:List (Nat×List Nat)} {rest:List (Nat×Bool)} (t:TypeId) (s:ByteArray) (i:Int) (b:UInt8) (dst:Option Tmp)
  (he:EJ (Kq n (bS f id) E j)=(some (t,.string s,.int .i64 i,dst),C4 (Kq n (bS f id) E j),0)) (hu:P.underlying t=some .string) (h0:0≤i) (hb:s.data.toList[i.toNat]?=some b)
  (A:JR P f R n (bS f id) L0 ck rest (Wp.filter (·.1 != j)) k (E.put dst (.val (.int .u8 b.toNat))) h r F Y) :
  JR P f R n (bS f id) L0 ck ((j,false)::rest) Wp k E h r F Y:=by
 obtain⟨p,he,hp⟩:=Cy he
 intro B Hd aU a w st hH hR hN hW
 simp only[PW]
 have h1:=Gc hb
 refine Dx he hp st ⟨.int .u8 b.toNat,w,by simp[Instr.index,asIntOf,run_underlying hu,h0,h1],fun a2 hA=>⟨fun uQ b oQ hl=>rfl,?_⟩⟩
 rw[jP]
 exact A B Hd aU a2 w ⟨hA,st.own,st.fr,st.may,st.gh⟩ hH hR hN (gT hW)
end
end Go.Sx
end
section
namespace Go.Sx
open Go
def NG (n:Nat) (ops:Array Oper) (E:Env) (i:Nat):Option (Value×TypeId×Option Tmp):=
 match ops[i]? with
 | none=>none
 | some o=>if nT n o.dst then match o.guard with
  | some _=>none
  | none=>match o.op with
   | .call c=>match c.callee with
    | .builtin .clear=>match jN E none c.args.toList with
     | some []=>match c.args.toList,c.argTypes.toList with
      | [s],[t]=>some (mG E s,t,o.dst)
      | _,_=>none
     | _=>none
    | _=>none
   | _=>none
  else none
section rows
variable {P:Program} {f:Func} [Pan f] {R:Act→World→Prop} {n:Nat} [Dfr n] {k:List oR} {E:Env} {h r:List (Nat×Obj)} {F:List (List Nat×World)} {Y:fQ}
theorem Ar (z:Array Value) (n:Nat):(Builtin.zeroCells z n).size=n*z.size:=by simp[Builtin.zeroCells]
theorem L8 {z:Array Value} (hz:∀u∈z.toList,u.oneCell'=true) (m:Nat):∀u∈(Builtin.zeroCells z m).toList,u.oneCell'=true:=by
 intro u hu
 unfold Builtin.zeroCells at hu
 simp only[Array.toList_map,aB]at hu
 obtain⟨i,hi,rfl⟩:=hu
 have hi2:i<m*z.size:=by simpa using hi
 have hpos:0<z.size:=Nat.pos_of_ne_zero fun h=>by rw[h]at hi2;simp at hi2
 have hlt:=l8 i hpos
 rw[getElem!_pos z _ hlt]
 exact hz _ (by simp)
theorem DT {ops:Array Oper} {i:Nat} {mv:Value} {t:TypeId} {dst:Option Tmp} (he:NG n ops E i=some (mv,t,dst))
  {a:Act} {w:World} {aU:List (List Nat)} (s:nH n E h r F Y a w aU) {K:Act→World→Prop}
  (H:∀ty,∃v' w',(Builtin.clear_ #[t] ty #[mv]).run P w=.ok v' w'∧∀a',Ag n (E.put dst (.val v')) a'→K a' w'):wpOp P ops (mq P f R k) i K a w:=by
 unfold NG at he
 split at he
 ·cases he
 rename_i o ho
 split at he
 case isFalse=>cases he
 rename_i hd
 split at he
 ·cases he
 rename_i hg
 split at he
 case h_2=>cases he
 rename_i c hc
 split at he
 case h_2=>cases he
 rename_i AY
 split at he
 case h_2=>cases he
 rename_i hq
 split at he
 case h_2=>cases he
 rename_i xs t' hargs AT
 simp only[az,aH]at he
 obtain⟨rfl,rfl,rfl⟩:=he
 have uP:=eG s.ag (fun c w h=>by cases h) _ _ hq trivial
 have e1:a.eval xs=mG E xs:=uP xs (by rw[hargs];simp)
 have hca:c.args = #[xs]:=by rw[←eJ (xs:=c.args),hargs]
 have hct:c.argTypes = #[t']:=by rw[←eJ (xs:=c.argTypes),AT]
 obtain⟨v',w',hrun,hk⟩:=H o.type
 unfold wpOp
 simp only[ho]
 rw[if_pos (by simp[Region.wanted,hg])]
 refine .inl ?_
 unfold Oper.wp execOp
 simp only[hc,resolve,AY,hca,hct,invoke,builtin,Sem.run_bind,Sem.run_pure,Result.andThen_ok,lg,cj,gy,e1,hrun]
 exact hk _ (s.ag.put hd (.val v'))
theorem yR {id L0 i:Nat} {ck:Bool} {Wp:List (Nat×List Nat)} {rest:List (Nat×Bool)} (p g o m c t e:Nat) (z:Value) (dst:Option Tmp) {cur:Array Value} {size bytes:Nat}
  (he:NG n (bS f id) E i=some (.slice (some ⟨g,o,none⟩) m c,t,dst)) (hok:(!ck||okW L0 (Wp.lookup i) [p])=true) (ht:P.underlying t=some (.slice e)) (hi:(P.info? e).map (fun i=>(i.zero,i.size,i.bytes))=some (some z,size,bytes)) (hm:0<m)
  (hp:h[p]?=some (g,.cells cur e (0,0))) (hz:z.cells.size=size) (CV:o+m*size≤cur.size) (h10:∀u∈z.cells.toList,u.oneCell'=true)
  (A0:∀vs:List Value,vs.length=m*size→JR P f R n (bS f id) L0 ck rest (Wp.filter (·.1 != i)) k (E.put dst (.val (.tuple #[]))) (h.set p (g,.cells (xx cur o vs) e (0,0))) r F Y) :
  JR P f R n (bS f id) L0 ck ((i,false)::rest) Wp k E h r F Y:=by
 have hsz:(Builtin.zeroCells z.cells m).size=m*size:=by rw[Ar,hz]
 have hl:o+(Builtin.zeroCells z.cells m).size≤cur.size:=by rw[hsz];exact CV
 have h1:∀u∈(Builtin.zeroCells z.cells m).toList,u.oneCell'=true:=L8 h10 m
 have A:=A0 (Builtin.zeroCells z.cells m).toList (by simpa using hsz)
 intro BB Hd aU a w s hH hR hN hW
 simp only[PW]
 obtain⟨inf,EF,FX,_⟩:=vL hi
 have hb:w.heap[g]?=some (.cells cur e (0,0)):=s.own.own _ (ae hp)
 have hzero:(zeroValue e).run P w=.ok z w:=by simp[zeroValue,typeInfo,EF,FX]
 have hrun:=run_storeCells_at (P:=P) g o e (Builtin.zeroCells z.cells m).toList 0 cur w hb (by simpa using hl) h1
 rw[rZ hb,dZ]at hrun
 refine DT he s fun ty=>⟨.tuple #[],{ w with heap:=w.heap.setIfInBounds g (.cells (xx cur o (Builtin.zeroCells z.cells m).toList) e (0,0)) },?_,fun a' hA=>je hok hp s hH hR hN hW hA A⟩
 obtain⟨m',rfl⟩:∃m',m=m'+1:=⟨m - 1,by omega⟩
 have Qa:(storeCells ⟨g,o,none⟩ (Builtin.zeroCells z.cells (m'+1)).toList).run P w=.ok () { w with heap:=w.heap.setIfInBounds g (.cells (xx cur o (Builtin.zeroCells z.cells (m'+1)).toList) e (0,0)) }:=hrun
 simp[Builtin.clear_,run_underlying ht,hzero,Qa,Result.andThen]
end rows
theorem Row.Uz {cur:Array Value} {cap n size:Nat} {xs vs:List Value} (h:Row cur cap n size xs) {i:Nat} (hi:i≤n) (hv:vs.length=(n - i)*size):Row (xx cur (i*size) vs) cap i size (xs.take (i*size)):=by
 have hle:i*size≤n*size:=cD size hi
 have h2:n*size≤cap*size:=cD size h.le
 have hs:=h.Ei
 have hsum:i*size+(n - i)*size=n*size:=by rw[←jR];congr 1;omega
 refine⟨?_,?_,aZ hi h.le,h.max,?_⟩
 ·rw[bp,h.len]
  omega
 ·rw[Ek (by rw[hv];omega)]
  exact hs
 ·have e1:(xx cur (i*size) vs).toList.take (i*size)=cur.toList.take (i*size):=by
   simp only[xx]
   rw[bY,List.take_append_of_le_length (by simp;omega),List.take_take,Nat.min_self]
  rw[e1,←h.take,List.take_take]
  congr 1
  omega
section steps
variable {h r:List (Nat×Obj)} {F:List (List Nat×World)}
theorem gv.cut {w:World} {S:Nat→Prop} {xs:List Value} {k:Nat} {rows:List (List D)} (h:gv w S xs k rows) (i:Nat):gv w S (xs.take (i*k)) k (rows.take i):=by
 refine⟨fun row hr=>h.len row (jo hr),fun p j row d hp hj=>?_⟩
 rw[cL]at hp
 split at hp
 ·rename_i hpi
  obtain⟨u,h1,h2⟩:=h.El p j row d hp hj
  have EC:j<k:=by rw[←h.len row (ae hp)];exact(ai.1 hj).1
  exact⟨u,by rw[cL,if_pos (xW hpi EC)];exact h1,h2⟩
 ·cases hp
theorem rh {S0:Nat→Prop} {C0:List Chunk} {G0:List (Value×D)} (q i:Nat) {xs:List Value} {k:Nat} {rows:List (List D)} (hq:C0[q]?=some (kM xs k rows)) :
  nP h r F ⟨S0,C0,G0⟩ (fun _:Unit=>True) fun _=>⟨S0,C0.set q (kM (xs.take (i*k)) k (rows.take i)),G0⟩:=by
 intro w aU hO H
 obtain⟨fp,og,uN,hP⟩:=H.kF.at hq
 have hc:(kM (xs.take (i*k)) k (rows.take i)).P w (Sd ⟨S0,C0,G0⟩ h aU) fp:=⟨uN,hP.cut i⟩
 have hs:=H.kF.set hc (i:=q)
 have e:aU.set q fp=aU:=kG og
 rw[e]at hs
 exact⟨(),aU,trivial,fun _ hb=>hb,H.less (fun _ hb=>hb) H.nodup hs H.g⟩
theorem gv.put {w:World} {S:Nat→Prop} {xs vs:List Value} {k:Nat} {rows:List (List D)} (h:gv w S xs k rows) (hl:xs.length=rows.length*k) {i:Nat} (hi:i<rows.length) {row:List D} (hv:vs.length=k) (hr:row.length=k) (mL:∀(j:Nat) d,row[j]?=some d→∃u,vs[j]?=some u∧cm w S u d) :
  gv w S (xs.take (i*k)++vs++xs.drop (i*k+k)) k (rows.set i row):=by
 have h1:i*k+k≤rows.length*k:=by
  have:=cD k (jn hi)
  rwa[j1]at this
 refine⟨fun row' hr'=>?_,fun p j row' d hp hj=>?_⟩
 ·rcases jc hr' with h2|rfl
  ·exact h.len row' h2
  ·exact hr
 ·by_cases hpi:i=p
  ·subst hpi
   rw[bX hi]at hp
   cases hp
   obtain⟨u,hu,TK⟩:=mL j d hj
   have EC:j<k:=by rw[←hr];exact(ai.1 hj).1
   refine⟨u,?_,TK⟩
   rw[bz (by simp;omega),bt (by simp;omega)]
   simp only[bp,hl]
   rw[show i*k+j - min (i*k) (rows.length*k)=j by omega]
   exact hu
  ·rw[cN hpi]at hp
   obtain⟨u,h3,h4⟩:=h.El p j row' d hp hj
   have EC:j<k:=by rw[←h.len row' (ae hp)];exact(ai.1 hj).1
   refine⟨u,?_,h4⟩
   rcases Nat.lt_or_gt_of_ne hpi with hlt|hgt
   ·have h5:=cD k (jn hlt)
    rw[j1]at h5
    rw[bt (by simp;omega),cq]
    simp only[bA,bp,hl,hv]
    rw[show i*k+k+(p*k+j - (min (i*k) (rows.length*k)+k))=p*k+j by omega]
    exact h3
   ·have h5:=cD k (jn hgt)
    rw[j1]at h5
    rw[bz (by simp;omega),bz (by simp;omega),cL,if_pos (by omega)]
    exact h3
theorem tj {S0:Nat→Prop} {C0:List Chunk} {G0:List (Value×D)} (q i:Nat) {xs vs:List Value} {k:Nat} {rows:List (List D)} {row:List D} (hq:C0[q]?=some (kM xs k rows)) (hl:xs.length=rows.length*k) (hi:i<rows.length) (hk:row.length=k) (hR:qV G0 vs row) :
  nP h r F ⟨S0,C0,G0⟩ (fun _:Unit=>True) fun _=>⟨S0,C0.set q (kM (xs.take (i*k)++vs++xs.drop (i*k+k)) k (rows.set i row)),G0⟩:=by
 intro w aU hO H
 obtain⟨fp,og,uN,hP⟩:=H.kF.at hq
 have hc:(kM (xs.take (i*k)++vs++xs.drop (i*k+k)) k (rows.set i row)).P w (Sd ⟨S0,C0,G0⟩ h aU) fp:=⟨uN,hP.put hl hi (by rw[hR.len,hk]) hk fun j d hj=>hR.at H.g j d hj⟩
 have hs:=H.kF.set hc (i:=q)
 have e:aU.set q fp=aU:=kG og
 rw[e]at hs
 exact⟨(),aU,trivial,fun _ hb=>hb,H.less (fun _ hb=>hb) H.nodup hs H.g⟩
end steps
end Go.Sx
end
section
namespace Go.Sx
open Go Go.RowKit
abbrev dI (n:Int):D:=.v (.int .i64 n)
abbrev eI (t:Int):List D:=[dI t]
abbrev aS (l:List Int):D:=.sl 1 (l.map eI)
theorem dJ {w:World} {S:Nat→Prop} {a:Option Addr} {n c:Nat} {xs:List Int} (h:cm w S (.slice a n c) (aS xs)):n=xs.length:=by
 have:=h.pA
 simpa using this
abbrev eS (s:ByteArray):List D:=[.v (.string s)]
abbrev pe (l:List ByteArray):D:=.sl 1 (l.map eS)
def KR (T:Nat) (er:Nat→Addr) (k:Nat):Value:=.iface T (.pointer (some (er k)))
def lq (T:Nat) (er:Nat→Addr) (k:Nat) (v:Value):Prop:=(k=0∧v=.nilIface)∨(k≠0∧v=.iface T (.pointer (some (er k))))
abbrev dE (T:Nat) (er:Nat→Addr) (g k:Nat):Value×D:=(.pointer (some ⟨g,0,none⟩),.ptr [.v (.iface T (.pointer (some (er k))))])
theorem gl.pick {w:World} {S:Nat→Prop} {G G':List (Value×D)} (h:gl w S G) (ps:List Nat) (hp:pick G ps=G'):gl w S G':=fun x hx=>h x (rj hp x hx)
theorem gl.app {w:World} {S:Nat→Prop} {G G':List (Value×D)} (h:gl w S G) (h':gl w S G'):gl w S (G++G'):=fun x hx=>by
 rcases au.1 hx with hx|hx
 ·exact h x hx
 ·exact h' x hx
structure my where
 i:Int
 a:Option Addr
 k:Nat
 c:Nat
theorem dz {α:Type} {l:List α} {i:Int} {x:α} (hi:0≤i) (hx:l[i.toNat]?=some x):l.take i.toNat++[x]=l.take (i+1).toNat:=by
 have e:(i+1).toNat=i.toNat+1:=by omega
 rw[e,cV,hx]
 rfl
theorem zC {w w':World} {S:Nat→Prop} {e:Ending} {v:Value} (he:e=.returned v) (h:Below w.heap.size w w') (hd:w.drawn≤w'.drawn):cQ [] w S w' e v [] []:=
 ⟨he,⟨h.os,h.tape,h.output,h.size,fun b hb _=>h.block b hb,hd⟩,[],trivial,by simp,by simp,by simp⟩
theorem BS {w w':World} {S:Nat→Prop} {e:Ending} {v:Value} (he:e=.returned v) (h:w'=w):cQ [] w S w' e v [] []:=zC he (h ▸ Below.refl _ _) (h ▸ aX _)
end Go.Sx
end
section
namespace Go.Sx
open Go
structure gi where
 place:Int
 time:Int
 no:Int
structure fP where
 no:Int
 key:ByteArray
 kind:Int
 text:ByteArray
 n:Int
 remove:Bool
 bF:List gi
structure bO where
 when:List Int
 place:Int
 ops:List fP
structure bN where
 fm:Int
 to:Int
 de:Int
 seq:Int
 time:Int
 dW:Bool
 c:bO
abbrev bK (d:gi):List D:=[dI d.place,dI d.time,dI d.no]
abbrev fe (o:fP):List D:=[dI o.no,.v (.string o.key),dI o.kind,.v (.string o.text),dI o.n,.v (.bool o.remove),.sl 3 (o.bF.map bK)]
abbrev eW (c:bO):List D:=[.sl 1 (c.when.map eI),dI c.place,.sl 7 (c.ops.map fe)]
abbrev fC (m:bN):List D:=[dI m.fm,dI m.to,dI m.de,dI m.seq,dI m.time,.v (.bool m.dW),.sl 1 (m.c.when.map eI),dI m.c.place,.sl 7 (m.c.ops.map fe)]
instance:DecidableEq gi:=fun a b=>decidable_of_iff (a.place=b.place∧a.time=b.time∧a.no=b.no) ⟨fun⟨h1,h2,h3⟩=>by cases a;cases b;simp_all,fun h=>by subst h;exact⟨rfl,rfl,rfl⟩⟩
end Go.Sx
end
