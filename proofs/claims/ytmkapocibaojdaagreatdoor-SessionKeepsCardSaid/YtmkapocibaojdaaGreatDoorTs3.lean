/- Part 3 of the texts of a claim: Tx8 Tx10 Tx11 Tx12 Tx13 Tx14 Dat MsgT. -/
import Derived.Maps.AppendAt
import Derived.MapKept
import Derived.Laws.CopyRow
import Derived.Lib.ConvBytes
import Derived.Below
import Derived.Test.YtmkapocibaojdaaGreatDoorTs2
section
namespace Go.Sx
open Go
def appOf (n:Nat) (ops:Array Oper) (E:Env) (i:Nat):Option (Value×Value×TypeId×Option Tmp):=
 match ops[i]? with
 | none=>none
 | some o=>if dstOk n o.dst then match o.guard with
  | some _=>none
  | none=>match o.op with
   | .call c=>match c.callee with
    | .builtin .append=>match opsOk E none c.args.toList with
     | some []=>match c.args.toList,c.argTypes.toList with
      | [s,x],[t,u]=>if Nat.beq t u then some (rho E s,rho E x,t,o.dst)else none
      | _,_=>none
     | _=>none
    | _=>none
   | _=>none
  else none
theorem appOf_sound {P:Program} {f:Func} [Pan f] {R:Act→World→Prop} {n:Nat} [Dfr n] {ops:Array Oper} {i:Nat} {E:Env} {h r:List (Nat×Obj)} {F:List (List Nat×World)} {Y:Ghost} {sv xv:Value} {t:TypeId} {dst:Option Tmp} (he:appOf n ops E i=some (sv,xv,t,dst))
  {a:Act} {w:World} (s:St n E h r F Y a w) {K:Act→World→Prop} {k:List Itm}
  (H:∀ty,∃v' w',(Builtin.append_ #[t,t] ty #[sv,xv]).run P w=.ok v' w'∧∀a',Ag n (E.put dst (.val v')) a'→K a' w'):wpOp P ops (wpK P f R k) i K a w:=by
 unfold appOf at he
 split at he
 ·cases he
 rename_i o ho
 split at he
 case isFalse=>cases he
 rename_i hd
 split at he
 ·cases he
 rename_i hg
 split at he
 case h_2=>cases he
 rename_i c hc
 split at he
 case h_2=>cases he
 rename_i hcal
 split at he
 case h_2=>cases he
 rename_i hq
 split at he
 case h_2=>cases he
 rename_i xs x t' u hargs htys
 split at he
 case isFalse=>cases he
 rename_i htu
 simp only[Option.some.injEq,Prod.mk.injEq]at he
 obtain⟨rfl,rfl,rfl,rfl⟩:=he
 obtain rfl:=Nat.eq_of_beq_eq_true htu
 have hev:=opsOk_sound s.ag (fun c w h=>by cases h) _ _ hq trivial
 have e1:a.eval xs=rho E xs:=hev xs (by rw[hargs];simp)
 have e2:a.eval x=rho E x:=hev x (by rw[hargs];simp)
 have hca:c.args = #[xs,x]:=by rw[←Array.toArray_toList (xs:=c.args),hargs]
 have hct:c.argTypes = #[t',t']:=by rw[←Array.toArray_toList (xs:=c.argTypes),htys]
 obtain⟨v',w',hrun,hk⟩:=H o.type
 unfold wpOp
 simp only[ho]
 rw[if_pos (by simp[Region.wanted,hg])]
 refine .inl ?_
 unfold Oper.wp execOp
 simp only[hc,resolve,hcal,hca,hct,invoke,builtin,Sem.run_bind,Sem.run_pure,Result.andThen_ok,List.map_toArray,List.map_cons,List.map_nil,e1,e2,hrun]
 exact hk _ (s.ag.put hd (.val v'))
section app
variable {P:Program} {f:Func} [Pan f] {R:Act→World→Prop} {n:Nat} [Dfr n] {k:List Itm} {E:Env} {h r:List (Nat×Obj)} {F:List (List Nat×World)} {Y:Ghost}
theorem infoParts {P:Program} {e:TypeId} {z:Value} {size bytes:Nat} (h:(P.info? e).map (fun i=>(i.zero,i.size,i.bytes))=some (some z,size,bytes)):∃inf,P.info? e=some inf∧inf.zero=some z∧inf.size=size∧inf.bytes=bytes:=by
 obtain⟨inf,hi,hx⟩:=Option.map_eq_some_iff.1 h
 simp only[Prod.mk.injEq]at hx
 exact⟨inf,hi,hx.1,hx.2.1,hx.2.2⟩
end app
def SrcAt (w:World) (S:Nat→Prop) (ax:Option Addr) (m size:Nat) (news:List (List D)):Prop:=
 news.length=m∧((ax=none∧m=0)∨∃ad us,ax=some ad∧us.length=m*size∧(∀(j:Nat) u,us[j]?=some u→w.cell? (ad.add j)=some u)∧RowsAt w S us size news)
def RowG (G:List (Value×D)):List Value→List D→Prop
 | [],[]=>True
 | u::us,d::ds=>((d=.v u∧u.oneCell'=true)∨(u,d)∈G∨∃a c k,u=.slice a 0 c∧d=.sl k [])∧RowG G us ds
 | _,_=>False
theorem RowG.len {G:List (Value×D)}:∀{us:List Value} {ds:List D},RowG G us ds→us.length=ds.length
 | [],[],_=>rfl
 | _::_,_::_,h=>by simp[RowG.len h.2]
 | [],_::_,h=>h.elim
 | _::_,[],h=>h.elim
theorem RowG.at {G:List (Value×D)} {w:World} {S:Nat→Prop} (hG:∀x∈G,Rep w S x.1 x.2):∀{us:List Value} {ds:List D},RowG G us ds→∀(j:Nat) (d:D),ds[j]?=some d→∃u,us[j]?=some u∧Rep w S u d
 | [],[],_,j,d,hd=>by simp at hd
 | u::us,d0::ds,h,0,d,hd=>by
  simp only[List.getElem?_cons_zero,Option.some.injEq]at hd
  subst hd
  refine⟨u,rfl,?_⟩
  rcases h.1 with ⟨rfl,h1⟩|h1|⟨a,c,k,rfl,rfl⟩
  ·exact .v h1
  ·exact hG _ h1
  ·exact .nil
 | u::us,d0::ds,h,j+1,d,hd=>by
  obtain⟨u',h1,h2⟩:=RowG.at hG h.2 j d (by simpa using hd)
  exact⟨u',by simpa using h1,h2⟩
 | [],_::_,h,_,_,_=>h.elim
 | _::_,[],h,_,_,_=>h.elim
section appc
variable {P:Program} {f:Func} [Pan f] {R:Act→World→Prop} {n:Nat} [Dfr n] {k:List Itm} {E:Env} {h r:List (Nat×Obj)} {F:List (List Nat×World)} {Y:Ghost}
theorem src_one {a:Act} {w:World} {fps:List (List Nat)} (s:StF n E h r F Y a w fps) (p:Nat) {b:Nat} {cs:Array Value} {ty:TypeId} {fz:Nat×Nat} {size:Nat} {row:List D} (hp:h[p]?=some (b,.cells cs ty fz)) (hsz:row.length=size) (hR:RowG Y.G cs.toList row) :
  SrcAt w (Sd Y h fps) (some ⟨b,0,none⟩) 1 size [row]:=by
 have hb:=s.own.own _ (List.mem_of_getElem? hp)
 refine⟨rfl,.inr ⟨_,cs.toList,rfl,by rw[hR.len,hsz,Nat.one_mul],fun j u hu=>?_,by simp[hsz],fun i j row' d hi hj=>?_⟩⟩
 ·have hadd:(⟨b,0,none⟩:Addr).add j=⟨b,0+j,none⟩:=by unfold Addr.add;split <;> simp_all
  rw[hadd]
  exact cell_of rfl hb rfl (by simpa using hu)
 ·cases i with
  | succ i=>simp at hi
  | zero=>
   simp only[List.getElem?_cons_zero,Option.some.injEq]at hi
   subst hi
   rw[Nat.zero_mul,Nat.zero_add]
   exact hR.at s.gh.g j d hj
theorem src_rep {w:World} {S:Nat→Prop} {a:Option Addr} {m c size:Nat} {rows:List (List D)} (h:Rep w S (.slice a m c) (.sl size rows)) (hsz:0<size):SrcAt w S a m size rows:=by
 cases h with
 | nil=>cases a with
  | none=>exact⟨rfl,.inl ⟨rfl,rfl⟩⟩
  | some ad=>exact⟨rfl,.inr ⟨ad,[],rfl,by simp,by simp,RowsAt.nil _ _ _ _⟩⟩
 | sl u hb hS hc hk hl hcell hrep=>
  rename_i b off cs e fz
  refine⟨rfl,.inr ⟨_,(List.range (rows.length*size)).map (fun q=>u (q / size) (q % size)),rfl,by simp,fun j x hx=>?_,hl,fun i j row d hi hj=>?_⟩⟩
  ·rw[List.getElem?_map]at hx
   obtain⟨q,hq,rfl⟩:=Option.map_eq_some_iff.1 hx
   have hlt:j<rows.length*size:=by simpa using(List.getElem?_eq_some_iff.1 hq).1
   have hqj:q=j:=by rw[List.getElem?_range hlt]at hq;exact(Option.some.inj hq).symm
   subst hqj
   have h1:q / size<rows.length:=Nat.div_lt_of_lt_mul (by rw[Nat.mul_comm];exact hlt)
   have h2:=hcell (q / size) (q % size) h1 (Nat.mod_lt _ hk)
   rw[Nat.mul_comm,Nat.div_add_mod]at h2
   have hadd:(⟨b,off,none⟩:Addr).add q=⟨b,off+q,none⟩:=by unfold Addr.add;split <;> simp_all
   rw[hadd]
   exact cell_of rfl hb rfl h2
  ·have hil:=(List.getElem?_eq_some_iff.1 hi).1
   have hjl:j<size:=by
    rw[←hl row (List.mem_of_getElem? hi)]
    exact(List.getElem?_eq_some_iff.1 hj).1
   refine⟨u i j,?_,hrep i j row d hi hj⟩
   rw[List.getElem?_map,List.getElem?_range (idx_lt hil hjl)]
   have h1:(i*size+j) / size=i:=by
    rw[Nat.mul_comm,Nat.mul_add_div hk,Nat.div_eq_of_lt hjl,Nat.add_zero]
   have h2:(i*size+j) % size=j:=by
    rw[Nat.mul_comm,Nat.mul_add_mod,Nat.mod_eq_of_lt hjl]
   simp[h1,h2]
theorem src_fact {a:Act} {w:World} {fps:List (List Nat)} (s:StF n E h r F Y a w fps) (p:Nat) {a0:Option Addr} {m c size:Nat} {rows:List (List D)} (hp:Y.G[p]?=some (.slice a0 m c,.sl size rows)) (hsz:0<size):SrcAt w (Sd Y h fps) a0 m size rows:=
 src_rep (s.gh.g _ (List.mem_of_getElem? hp)) hsz
theorem JR_appc0 {id L0 i:Nat} {ck:Bool} {Wp:List (Nat×List Nat)} {rest:List (Nat×Bool)} (q t e size bytes:Nat) (z:Value) {a0 ax:Option Addr} {len cap0 m c:Nat} {rows:List (List D)} {dst:Option Tmp} (news:List (List D))
  (he:appOf n (rgOf f id) E i=some (.slice a0 len cap0,.slice ax m c,t,dst)) (hok:(!ck||(Wp.lookup i).isSome)=true)
  (ht:P.underlying t=some (.slice e)) (hi:(P.info? e).map (fun i=>(i.zero,i.size,i.bytes))=some (some z,size,bytes)) (hzs:z.cells.size=size) (hs0:0<size)
  (hc:Y.C[q]?=some (cAcc (.slice a0 len cap0) e size rows)) (hsrc:∀a w fps,StF n E h r F Y a w fps→SrcAt w (Sd Y h fps) ax m size news)
  (hmax:len+m≤maxLen) (hby:(len+m)*bytes≤140737488355328)
  (A:∀a' cap',JR P f R n (rgOf f id) L0 ck rest (Wp.filter (·.1 != i)) k (E.put dst (.val (.slice a' (len+m) cap'))) h r F ⟨Y.S,restC Y.C [q]++[cAcc (.slice a' (len+m) cap') e size (rows++news)],Y.G++[]⟩) :
  JR P f R n (rgOf f id) L0 ck ((i,false)::rest) Wp k E h r F Y:=by
 obtain⟨inf,h1i,h2i,rfl,rfl⟩:=infoParts hi
 intro B Hd fps a w s hH hR hN hW
 simp only[PW]
 obtain⟨fp,hfp,_,hP⟩:=s.gh.chs.at hc
 have hlen:=acc_len (show(cAcc (.slice a0 len cap0) e inf.size rows).P w (Sd Y h fps) fp from⟨hs0,hP⟩)
 have hpk:pick fps [q]=[fp]:=by simp[pick,hfp]
 have hM:(pick fps [q]).flatten=fp:=by rw[hpk];simp
 refine appOf_sound he s.st fun ty=>?_
 obtain⟨hnm,hsr⟩:=hsrc a w fps s
 have key:∃a' cap' w',(Builtin.append_ #[t,t] ty #[.slice a0 len cap0,.slice ax m c]).run P w=.ok (.slice a' (len+m) cap') w'∧Ret (pick fps [q]).flatten w (Sd Y h fps) w' (.returned (.slice a' (len+m) cap')) (.slice a' (len+m) cap') [cAcc (.slice a' (len+m) cap') e inf.size (rows++news)] []:=by
  rw[hM]
  rcases hsr with ⟨rfl,rfl⟩|⟨ad,us,rfl,hul,hus,hRus⟩
  ·have hnews:news=[]:=List.eq_nil_of_length_eq_zero hnm
   subst hnews
   have hle:len≤cap0:=by
    rcases hP with ⟨_,h2,_⟩|⟨g,cap,cur,xs,h2,_,_,h3,_⟩
    ·cases h2;exact Nat.le_refl _
    ·cases h2;exact h3.le
   refine⟨a0,cap0,w,?_,rfl,Fr.refl _ _,[fp],?_,?_,fun b hb=>⟨.inl (by simpa using hb),s.gh.lt b (List.mem_flatten.2 ⟨fp,List.mem_of_getElem? hfp,by simpa using hb⟩)⟩,by simp⟩
   ·cases a0 <;> simp[Builtin.append_,run_underlying ht,sizeOf,typeInfo,h1i,Builtin.lenOf,Builtin.firstCells,hle,storeCells]
   ·refine⟨?_,trivial⟩
    rw[List.append_nil,Nat.add_zero]
    refine(cAcc _ _ _ _).mono (w:=w) (S:=Sd Y h fps) ⟨hs0,hP⟩ (fun _ _=>rfl) fun b hb _=>⟨⟨.inl hb,fun hm=>hb.2.2 ?_⟩,rfl⟩
    exact List.mem_flatten.2 ⟨fp,List.mem_of_getElem? hfp,by simpa using hm⟩
   ·have:=nodup_sublist_flat s.gh.nodup (List.singleton_sublist.2 (List.mem_of_getElem? hfp))
    exact this
  ·have hown:∃xs,w.ownsRow 0 e inf.size (.slice a0 len cap0) len xs∧RowsAt w (Sd Y h fps) xs inf.size rows∧xs.length=rows.length*inf.size∧(∀b,(Value.slice a0 len cap0).ownBlock=some b→b∈fp):=by
    rcases hP with ⟨rfl,h2,rfl⟩|⟨g,cap,cur,xs,h2,rfl,h3,h4,h5⟩
    ·cases h2
     exact⟨[],World.ownsRow_nil w 0 e inf.size,RowsAt.nil _ _ _ _,by simp,by simp[Value.ownBlock]⟩
    ·cases h2
     exact⟨xs,⟨h4.len,.inr ⟨g,cap0,cur,rfl,Nat.zero_le _,h3,h4.le,h4.max,h4.siz,h4.take⟩⟩,h5,h4.len,by simp[Value.ownBlock]⟩
   obtain⟨xs,hown,hRx,hxl,hob⟩:=hown
   obtain⟨v',w',hrun,hown',hgr,hnil,hat⟩:=run_append_own_at (P:=P) w 0 t ty e inf z inf.size inf.bytes ht h1i h2i rfl rfl hzs hs0 _ len xs hown ad m c us hul hus (hRus.one (by rw[hul,hnm])) hmax hby (Nat.zero_le _)
   have hfr:Fr fp w w':=⟨hgr.os,hgr.tape,hgr.output,hgr.size,fun b hb hn=>hgr.block b hb fun he=>hn (hob b he.symm),Sem.run_drawn hrun⟩
   have hnot:∀b,Sd Y h fps b→b∉fp:=fun b hb hm=>hb.2.2 (List.mem_flatten.2 ⟨fp,List.mem_of_getElem? hfp,hm⟩)
   have hRall:∀g',(g'∈fp∨w.heap.size≤g')→RowsAt w' (retS (Sd Y h fps) fp w [[g']]) (xs++us) inf.size (rows++news):=fun g' hg'=>
    (hRx.app hxl hRus).mono fun b hb hlt=>⟨⟨.inl hb,fun hm=>by
     simp only[List.flatten_cons,List.flatten_nil,List.append_nil,List.mem_singleton]at hm
     subst hm
     rcases hg' with h1|h1
     ·exact hnot _ hb h1
     ·omega⟩,hfr.block b hlt (hnot b hb)⟩
   rcases hown'.2 with ⟨rfl,h0⟩|⟨g',cap',cur',rfl,_,hg',hle,hmx,hsz,htk⟩
   ·have hm0:m=0:=by omega
    have hl0:len=0:=by omega
    have hnews:news=[]:=List.eq_nil_of_length_eq_zero (by omega)
    have hrows:rows=[]:=List.eq_nil_of_length_eq_zero (by omega)
    subst hm0 hl0 hnews hrows
    have h2:=hnil.1 rfl
    exact⟨none,0,w',hrun,rfl,hfr,[[]],⟨⟨hs0,.inl ⟨rfl,rfl,rfl⟩⟩,trivial⟩,by simp,by simp,by simp⟩
   ·have hg'':g'∈fp∨w.heap.size≤g':=by
     simp only[Value.ownBlock]at hat
     rcases hat with h1|h1
     ·exact .inl (hob g' (by simp only[Value.ownBlock];exact h1.symm))
     ·simp only[Option.some.injEq]at h1
      exact .inr (by omega)
    have hlt:g'<w'.heap.size:=(Array.getElem?_eq_some_iff.1 hg').1
    refine⟨_,cap',w',hrun,rfl,hfr,[[g']],⟨⟨hs0,.inr ⟨g',cap',cur',xs++us,?_,rfl,hg',?_,hRall g' hg''⟩⟩,trivial⟩,by simp,fun b hb=>?_,by simp⟩
    ·rw[List.length_append,hnm,hlen]
    ·rw[List.length_append,hnm,←hlen]
     exact⟨hown'.1,hsz,hle,hmx,htk⟩
    ·simp only[List.flatten_cons,List.flatten_nil,List.append_nil,List.mem_singleton]at hb
     subst hb
     exact⟨hg'',hlt⟩
 obtain⟨a',cap',w',hrun,hRet⟩:=key
 have hf:=hRet.fr
 refine⟨_,w',hrun,fun a2 hA=>⟨fun hck b hb hl=>hf.block b hb fun hm=>?_,?_⟩⟩
 ·have hm2:=pick_flat_sub hm
  cases hWl:Wp.lookup i with
  | none=>
   rw[hWl,hck]at hok
   simp at hok
  | some ps=>
   rw[lookup_idsW,hWl]at hl
   obtain⟨h1,h2⟩:=hl _ rfl
   rcases hH b hm2 with h3|h3
   ·exact h2 (List.mem_append_right _ h3)
   ·omega
 ·rw[filter_idsW]
  obtain⟨fps',h3,s'⟩:=s.called (cs:=[q]) hA hRet
  refine A a' cap' B Hd _ a2 w' s' (fun b hb=>?_) ⟨hR.old,hR.ro,hR.len,Nat.le_trans hR.size hf.size⟩ hN (okWp_filter hW)
  rw[List.flatten_append]at hb
  rcases List.mem_append.1 hb with hb|hb
  ·exact hH b (pick_flat_sub hb)
  ·rcases h3 b hb with h1|h1
   ·exact hH b (pick_flat_sub h1)
   ·exact .inr (Nat.le_trans hR.size h1)
theorem JR_appc {S0:Nat→Prop} {C0:List Chunk} {G0:List (Value×D)} {id L0 i:Nat} {ck:Bool} {Wp:List (Nat×List Nat)} {rest:List (Nat×Bool)} (q t e size bytes:Nat) (z:Value) {a0 ax:Option Addr} {len cap0 m c:Nat} {rows:List (List D)} {dst:Option Tmp} (news:List (List D))
  (he:appOf n (rgOf f id) E i=some (.slice a0 len cap0,.slice ax m c,t,dst)) (hok:(!ck||(Wp.lookup i).isSome)=true)
  (ht:P.underlying t=some (.slice e)) (hi:(P.info? e).map (fun i=>(i.zero,i.size,i.bytes))=some (some z,size,bytes)) (hzs:z.cells.size=size) (hs0:0<size)
  (hc:C0[q]?=some (cAcc (.slice a0 len cap0) e size rows)) (hsrc:∀a w fps,StF n E h r F ⟨S0,C0,G0⟩ a w fps→SrcAt w (Sd ⟨S0,C0,G0⟩ h fps) ax m size news)
  (hmax:len+m≤maxLen) (hby:(len+m)*bytes≤140737488355328)
  (A:∀a' cap',JR P f R n (rgOf f id) L0 ck rest (Wp.filter (·.1 != i)) k (E.put dst (.val (.slice a' (len+m) cap'))) h r F ⟨S0,restC C0 [q]++[cAcc (.slice a' (len+m) cap') e size (rows++news)],G0++[]⟩) :
  JR P f R n (rgOf f id) L0 ck ((i,false)::rest) Wp k E h r F ⟨S0,C0,G0⟩:=JR_appc0 (Y:=⟨S0,C0,G0⟩) q t e size bytes z news he hok ht hi hzs hs0 hc hsrc hmax hby A
theorem JR_appm0 {α:Type} {id L0 i:Nat} {ck:Bool} {Wp:List (Nat×List Nat)} {rest:List (Nat×Bool)} (q t e size bytes:Nat) (z:Value) {a0 ax:Option Addr} {len cap0 m c:Nat} {enc:α→List D} {l:List α} {dst:Option Tmp} (xs:List α)
  (he:appOf n (rgOf f id) E i=some (.slice a0 len cap0,.slice ax m c,t,dst)) (hok:(!ck||(Wp.lookup i).isSome)=true)
  (ht:P.underlying t=some (.slice e)) (hi:(P.info? e).map (fun i=>(i.zero,i.size,i.bytes))=some (some z,size,bytes)) (hzs:z.cells.size=size) (hs0:0<size)
  (hc:Y.C[q]?=some (cAcc (.slice a0 len cap0) e size (l.map enc))) (hsrc:∀a w fps,StF n E h r F Y a w fps→SrcAt w (Sd Y h fps) ax m size (xs.map enc))
  (hmax:len+m≤maxLen) (hby:(len+m)*bytes≤140737488355328)
  (A:∀a' cap',JR P f R n (rgOf f id) L0 ck rest (Wp.filter (·.1 != i)) k (E.put dst (.val (.slice a' (len+m) cap'))) h r F ⟨Y.S,restC Y.C [q]++[cAcc (.slice a' (len+m) cap') e size ((l++xs).map enc)],Y.G++[]⟩) :
  JR P f R n (rgOf f id) L0 ck ((i,false)::rest) Wp k E h r F Y:=by
 refine JR_appc q t e size bytes z (xs.map enc) he hok ht hi hzs hs0 hc hsrc hmax hby fun a' cap'=>?_
 have:=A a' cap'
 rwa[List.map_append]at this
theorem JR_appm {S0:Nat→Prop} {C0:List Chunk} {G0:List (Value×D)} {α:Type} {id L0 i:Nat} {ck:Bool} {Wp:List (Nat×List Nat)} {rest:List (Nat×Bool)} (q t e size bytes:Nat) (z:Value) {a0 ax:Option Addr} {len cap0 m c:Nat} {enc:α→List D} {l:List α} {dst:Option Tmp} (xs:List α)
  (he:appOf n (rgOf f id) E i=some (.slice a0 len cap0,.slice ax m c,t,dst)) (hok:(!ck||(Wp.lookup i).isSome)=true)
  (ht:P.underlying t=some (.slice e)) (hi:(P.info? e).map (fun i=>(i.zero,i.size,i.bytes))=some (some z,size,bytes)) (hzs:z.cells.size=size) (hs0:0<size)
  (hc:C0[q]?=some (cAcc (.slice a0 len cap0) e size (l.map enc))) (hsrc:∀a w fps,StF n E h r F ⟨S0,C0,G0⟩ a w fps→SrcAt w (Sd ⟨S0,C0,G0⟩ h fps) ax m size (xs.map enc))
  (hmax:len+m≤maxLen) (hby:(len+m)*bytes≤140737488355328)
  (A:∀a' cap',JR P f R n (rgOf f id) L0 ck rest (Wp.filter (·.1 != i)) k (E.put dst (.val (.slice a' (len+m) cap'))) h r F ⟨S0,restC C0 [q]++[cAcc (.slice a' (len+m) cap') e size ((l++xs).map enc)],G0++[]⟩) :
  JR P f R n (rgOf f id) L0 ck ((i,false)::rest) Wp k E h r F ⟨S0,C0,G0⟩:=JR_appm0 (Y:=⟨S0,C0,G0⟩) q t e size bytes z xs he hok ht hi hzs hs0 hc hsrc hmax hby A
theorem flatten_at {α:Type} {k:Nat}:∀{rows:List (List α)},(∀row∈rows,row.length=k)→∀{i j:Nat} {row:List α} {d:α},rows[i]?=some row→row[j]?=some d→rows.flatten[i*k+j]?=some d
 | [],_,i,j,row,d,hi,_=>by simp at hi
 | r::rows,hl,0,j,row,d,hi,hj=>by
  simp only[List.getElem?_cons_zero,Option.some.injEq]at hi
  subst hi
  have hjl:=(List.getElem?_eq_some_iff.1 hj).1
  rw[Nat.zero_mul,Nat.zero_add,List.flatten_cons,List.getElem?_append_left hjl]
  exact hj
 | r::rows,hl,i+1,j,row,d,hi,hj=>by
  have hr:=hl r (List.mem_cons_self ..)
  have ih:=flatten_at (fun x hx=>hl x (List.mem_cons_of_mem _ hx)) (by simpa using hi) hj
  have h1:(i+1)*k=k+i*k:=by rw[Nat.succ_mul];omega
  rw[List.flatten_cons,List.getElem?_append_right (by rw[hr,h1];omega),hr,h1]
  have h2:k+i*k+j - k=i*k+j:=by omega
  rw[h2]
  exact ih
theorem StF.data {a:Act} {w:World} {fps:List (List Nat)} (s:StF n E h r F Y a w fps) (p:Nat) {b:Nat} {cs:Array Value} {e:TypeId} {fz:Nat×Nat} {size cap:Nat} {rows:List (List D)} (hp:h[p]?=some (b,.cells cs e fz)) (hk:0<size) (hl:∀row∈rows,row.length=size) (hcap:rows.length≤cap)
  (hR:RowG Y.G cs.toList rows.flatten):StF n E (h.eraseIdx p) r F ⟨Y.S,Y.C,Y.G++[(.slice (some ⟨b,0,none⟩) rows.length cap,.sl size rows)]⟩ a w fps:=by
 have hm:∀x∈h.eraseIdx p,x∈h:=fun x hx=>(List.eraseIdx_sublist h p).subset hx
 have hid:∀c,c∈(h.eraseIdx p).map (·.1)→c∈h.map (·.1):=fun c hc=>by
  obtain⟨x,hx,rfl⟩:=List.mem_map.1 hc
  exact List.mem_map.2 ⟨x,hm x hx,rfl⟩
 have hnot:b∉(h.eraseIdx p).map (·.1):=fun hc=>by
  obtain⟨x,hx,hxb⟩:=List.mem_map.1 hc
  obtain⟨j,hj,he⟩:=List.mem_eraseIdx_iff_getElem?.1 hx
  have h1:(h.map (·.1))[j]?=some b:=by simp[he,hxb]
  have h2:(h.map (·.1))[p]?=some b:=by simp[hp]
  exact hj ((List.getElem?_inj (List.getElem?_eq_some_iff.1 h1).1 s.own.nodup).1 (h1.trans h2.symm))
 have hbm:(b,Obj.cells cs e fz)∈h:=List.mem_of_getElem? hp
 have hbf:b∉fps.flatten:=fun hx=>s.gh.disj b hx (List.mem_map.2 ⟨_,hbm,rfl⟩)
 have hS:∀c,Sd Y h fps c→Sd Y (h.eraseIdx p) fps c:=fun c hc=>⟨hc.1,fun hx=>hc.2.1 (hid c hx),hc.2.2⟩
 refine⟨s.ag,⟨fun x hx=>s.own.own x (hm x hx),((List.eraseIdx_sublist h p).map _).nodup s.own.nodup,s.own.ro,fun x hx hc=>s.own.apart x hx (hid _ hc)⟩,s.fr,fun f hf x hx=>s.may f hf x (hm x hx),
  ⟨s.gh.chs.mono (fun _ _=>rfl) fun c hc _=>⟨hS c hc,rfl⟩,s.gh.nodup,fun c hc hx=>s.gh.disj c hc (hid c hx),s.gh.apart,s.gh.may,s.gh.lt,fun x hx=>s.gh.own x (hm x hx),s.gh.hid,s.gh.top,fun x hx=>?_⟩⟩
 rcases List.mem_append.1 hx with hx|hx
 ·exact(s.gh.g x hx).mono fun c hc _=>⟨hS c hc,rfl⟩
 ·rw[List.mem_singleton]at hx
  subst hx
  refine .sl (fun i j=>cs.toList.getD (i*size+j) undef) (s.own.own _ hbm) ⟨s.gh.own _ hbm,hnot,hbf⟩ hcap hk hl (fun i j hi hj=>?_) fun i j row d hi hj=>?_
  ·have hjr:j<(rows[i]'hi).length:=by rw[hl _ (List.getElem_mem hi)];exact hj
   have h1:=flatten_at hl (List.getElem?_eq_getElem hi) (List.getElem?_eq_getElem hjr)
   obtain⟨u,hu,_⟩:=hR.at s.gh.g _ _ h1
   rw[Nat.zero_add,List.getD_eq_getElem?_getD,hu]
   simpa using hu
  ·obtain⟨u,hu,hr⟩:=hR.at s.gh.g _ _ (flatten_at hl hi hj)
   simp only[List.getD_eq_getElem?_getD,hu,Option.getD_some]
   exact hr.mono fun c hc _=>⟨hS c hc,rfl⟩
theorem J_data0 {α:Type} (p:Nat) (enc:α→List D) (l:List α) (cap:Nat) {b:Nat} {cs:Array Value} {e:TypeId} {fz:Nat×Nat} {size:Nat} (hp:h[p]?=some (b,.cells cs e fz)) (hk:0<size) (hen:∀x∈l,(enc x).length=size) (hcap:l.length≤cap) (hR:RowG Y.G cs.toList (l.map enc).flatten)
  (H:J P f R n k E (h.eraseIdx p) r F ⟨Y.S,Y.C,Y.G++[(.slice (some ⟨b,0,none⟩) (l.map enc).length cap,.sl size (l.map enc))]⟩):J P f R n k E h r F Y:=fun a w ⟨fps,s⟩=>
 H a w ⟨fps,s.data p hp hk (by intro row hrow;obtain⟨x,hx,rfl⟩:=List.mem_map.1 hrow;exact hen x hx) (by rw[List.length_map];exact hcap) hR⟩
theorem J_data {S0:Nat→Prop} {C0:List Chunk} {G0:List (Value×D)} {α:Type} (p:Nat) (enc:α→List D) (l:List α) (cap:Nat) {b:Nat} {cs:Array Value} {e:TypeId} {fz:Nat×Nat} {size:Nat} (hp:h[p]?=some (b,.cells cs e fz)) (hk:0<size) (hen:∀x∈l,(enc x).length=size) (hcap:l.length≤cap) (hR:RowG G0 cs.toList (l.map enc).flatten)
  (H:J P f R n k E (h.eraseIdx p) r F ⟨S0,C0,G0++[(.slice (some ⟨b,0,none⟩) (l.map enc).length cap,.sl size (l.map enc))]⟩):J P f R n k E h r F ⟨S0,C0,G0⟩:=J_data0 (Y:=⟨S0,C0,G0⟩) p enc l cap hp hk hen hcap hR H
theorem JR_data0 {α:Type} {ops:Array Oper} {L0:Nat} {ck:Bool} {plan:List (Nat×Bool)} {Wp:List (Nat×List Nat)} (p:Nat) (enc:α→List D) (l:List α) (cap:Nat) {b:Nat} {cs:Array Value} {e:TypeId} {fz:Nat×Nat} {size:Nat} (hp:h[p]?=some (b,.cells cs e fz)) (hL:Nat.ble L0 p=true) (hk:0<size) (hen:∀x∈l,(enc x).length=size) (hcap:l.length≤cap) (hR:RowG Y.G cs.toList (l.map enc).flatten)
  (H:JR P f R n ops L0 ck plan Wp k E (h.eraseIdx p) r F ⟨Y.S,Y.C,Y.G++[(.slice (some ⟨b,0,none⟩) (l.map enc).length cap,.sl size (l.map enc))]⟩):JR P f R n ops L0 ck plan Wp k E h r F Y:=fun B Hd fps a w s hH hR2 hN hW=>by
 have hLp:=Nat.le_of_ble_eq_true hL
 have hpl:=(List.getElem?_eq_some_iff.1 hp).1
 have hsame:∀i:Nat,i<L0→(h.eraseIdx p)[i]?=h[i]?:=fun i hi=>by rw[List.getElem?_eraseIdx];simp[show i<p by omega]
 have s':=s.data (cap:=cap) p hp hk (rows:=l.map enc) (by intro row hrow;obtain⟨x,hx,rfl⟩:=List.mem_map.1 hrow;exact hen x hx) (by rw[List.length_map];exact hcap) hR
 have hids:idsW Hd (h.eraseIdx p) Wp=idsW Hd h Wp:=by
  unfold idsW
  refine List.map_congr_left fun y hy=>?_
  congr 2
  have h1:=List.all_eq_true.1 hW y hy
  exact filterMap_same _ _ _ fun q hq=>by rw[hsame q (blt_lt (List.all_eq_true.1 h1 q hq))]
 have:=H B Hd fps a w s' hH ⟨fun i hi x hx=>hR2.old i hi x (by rw[←hsame i hi];exact hx),hR2.ro,by rw[List.length_eraseIdx];simp only[hpl,if_true];have:=hR2.len;omega,hR2.size⟩ (fun j hj x hx=>by
  rw[List.getElem?_eraseIdx]at hx
  split at hx
  ·exact hN j hj x hx
  ·exact hN (j+1) (by omega) x hx) hW
 rwa[hids]at this
theorem JR_data {S0:Nat→Prop} {C0:List Chunk} {G0:List (Value×D)} {α:Type} {ops:Array Oper} {L0:Nat} {ck:Bool} {plan:List (Nat×Bool)} {Wp:List (Nat×List Nat)} (p:Nat) (enc:α→List D) (l:List α) (cap:Nat) {b:Nat} {cs:Array Value} {e:TypeId} {fz:Nat×Nat} {size:Nat} (hp:h[p]?=some (b,.cells cs e fz)) (hL:Nat.ble L0 p=true) (hk:0<size) (hen:∀x∈l,(enc x).length=size) (hcap:l.length≤cap) (hR:RowG G0 cs.toList (l.map enc).flatten)
  (H:JR P f R n ops L0 ck plan Wp k E (h.eraseIdx p) r F ⟨S0,C0,G0++[(.slice (some ⟨b,0,none⟩) (l.map enc).length cap,.sl size (l.map enc))]⟩):JR P f R n ops L0 ck plan Wp k E h r F ⟨S0,C0,G0⟩:=JR_data0 (Y:=⟨S0,C0,G0⟩) p enc l cap hp hL hk hen hcap hR H
theorem StF.share {a:Act} {w:World} {fps:List (List Nat)} (s:StF n E h r F Y a w fps) (p:Nat) {b:Nat} {o:Obj} (hp:h[p]?=some (b,o)):StF n E (h.eraseIdx p) r F ⟨Y.S,Y.C,Y.G++[(.pointer (some ⟨b,0,none⟩),.obj o)]⟩ a w fps:=by
 have hm:∀x∈h.eraseIdx p,x∈h:=fun x hx=>(List.eraseIdx_sublist h p).subset hx
 have hid:∀c,c∈(h.eraseIdx p).map (·.1)→c∈h.map (·.1):=fun c hc=>by
  obtain⟨x,hx,rfl⟩:=List.mem_map.1 hc
  exact List.mem_map.2 ⟨x,hm x hx,rfl⟩
 have hnot:b∉(h.eraseIdx p).map (·.1):=fun hc=>by
  obtain⟨x,hx,hxb⟩:=List.mem_map.1 hc
  obtain⟨j,hj,he⟩:=List.mem_eraseIdx_iff_getElem?.1 hx
  have h1:(h.map (·.1))[j]?=some b:=by simp[he,hxb]
  have h2:(h.map (·.1))[p]?=some b:=by simp[hp]
  exact hj ((List.getElem?_inj (List.getElem?_eq_some_iff.1 h1).1 s.own.nodup).1 (h1.trans h2.symm))
 have hbm:(b,o)∈h:=List.mem_of_getElem? hp
 have hbf:b∉fps.flatten:=fun hx=>s.gh.disj b hx (List.mem_map.2 ⟨_,hbm,rfl⟩)
 have hS:∀c,Sd Y h fps c→Sd Y (h.eraseIdx p) fps c:=fun c hc=>⟨hc.1,fun hx=>hc.2.1 (hid c hx),hc.2.2⟩
 refine⟨s.ag,⟨fun x hx=>s.own.own x (hm x hx),((List.eraseIdx_sublist h p).map _).nodup s.own.nodup,s.own.ro,fun x hx hc=>s.own.apart x hx (hid _ hc)⟩,s.fr,fun f hf x hx=>s.may f hf x (hm x hx),
  ⟨s.gh.chs.mono (fun _ _=>rfl) fun c hc _=>⟨hS c hc,rfl⟩,s.gh.nodup,fun c hc hx=>s.gh.disj c hc (hid c hx),s.gh.apart,s.gh.may,s.gh.lt,fun x hx=>s.gh.own x (hm x hx),s.gh.hid,s.gh.top,fun x hx=>?_⟩⟩
 rcases List.mem_append.1 hx with hx|hx
 ·exact(s.gh.g x hx).mono fun c hc _=>⟨hS c hc,rfl⟩
 ·rw[List.mem_singleton]at hx
  subst hx
  exact .obj (s.own.own _ hbm) ⟨s.gh.own _ hbm,hnot,hbf⟩
theorem St.share {a:Act} {w:World} (s:St n E h r F Y a w) (p:Nat) {b:Nat} {o:Obj} (hp:h[p]?=some (b,o)):St n E (h.eraseIdx p) r F ⟨Y.S,Y.C,Y.G++[(.pointer (some ⟨b,0,none⟩),.obj o)]⟩ a w:=by
 obtain⟨fps,s⟩:=s
 exact⟨fps,s.share p hp⟩
theorem J_share {S0:Nat→Prop} {C0:List Chunk} {G0:List (Value×D)} (p:Nat) {b:Nat} {o:Obj} (hp:h[p]?=some (b,o)) (H:J P f R n k E (h.eraseIdx p) r F ⟨S0,C0,G0++[(.pointer (some ⟨b,0,none⟩),.obj o)]⟩):J P f R n k E h r F ⟨S0,C0,G0⟩:=fun a w ⟨fps,s⟩=>
 H a w ⟨fps,s.share p hp⟩
theorem rd0 {cs:Array Value} {x:Nat} {v:Value} (h:cs[x+0]?=some v):cs[x]?=some v:=h
theorem map_at {α β:Type} {g:α→β} {l:List α} {i:Nat} {x:α} (h:l[i]?=some x):(l.map g)[i]?=some (g x):=by rw[List.getElem?_map,h];rfl
end appc
end Go.Sx
end
section
namespace Go.Sx
open Go Go.MapKept
structure MapOf (d:TypeDesc) (es:Array MapEntry) (f:Value→Option Value):Prop where
 key:∀x∈es.toList,IsKey d x.key
 nodup:(es.toList.map (·.key)).Nodup
 val:∀x∈es.toList,f x.key=some x.val
 has:∀k v,f k=some v→∃x∈es.toList,x.key=k
open Classical in
noncomputable def fput (f:Value→Option Value) (key val:Value):Value→Option Value:=fun k=>if k=key then some val else f k
open Classical in
noncomputable def fdel (f:Value→Option Value) (key:Value):Value→Option Value:=fun k=>if k=key then none else f k
theorem MapOf.empty (d:TypeDesc):MapOf d #[] (fun _=>none):=⟨by simp,by simp,by simp,by simp⟩
theorem MapOf.congr {d:TypeDesc} {es:Array MapEntry} {f g:Value→Option Value} (h:MapOf d es f) (hfg:∀k,f k=g k):MapOf d es g:=by
 obtain rfl:f=g:=funext hfg
 exact h
theorem MapOf.look {d:TypeDesc} {es:Array MapEntry} {f:Value→Option Value} (h:MapOf d es f) {k:Value} (hk:IsKey d k) :
  (Instr.findNow d k es.toList 0=some none∧f k=none∧∀x∈es.toList,x.key≠k)∨∃j e,Instr.findNow d k es.toList 0=some (some (j,e.val))∧es.toList[j]?=some e∧e.key=k∧f k=some e.val:=by
 rcases findNow_spec hk es.toList 0 h.key with ⟨h1,h2⟩|⟨j,e,h1,h2,h3⟩
 ·refine .inl ⟨h1,?_,h2⟩
  cases hf:f k with
  | none=>rfl
  | some v=>
   obtain⟨x,hx,hxk⟩:=h.has k v hf
   exact absurd hxk (h2 x hx)
 ·rw[Nat.zero_add]at h1
  refine .inr ⟨j,e,h1,h2,h3,?_⟩
  rw[←h3]
  exact h.val e (List.mem_of_getElem? h2)
theorem MapOf.other {d:TypeDesc} {es:Array MapEntry} {f:Value→Option Value} (h:MapOf d es f) {j i:Nat} {e x:MapEntry} (hj:es.toList[j]?=some e) (hi:es.toList[i]?=some x) (hne:i≠j):x.key≠e.key:=by
 intro he
 have h1:(es.toList.map (·.key))[i]?=some x.key:=by rw[List.getElem?_map,hi];rfl
 have h2:(es.toList.map (·.key))[j]?=some x.key:=by rw[List.getElem?_map,hj,he];rfl
 exact hne ((List.getElem?_inj (List.getElem?_eq_some_iff.1 h1).1 h.nodup).1 (h1.trans h2.symm))
theorem MapOf.push {d:TypeDesc} {es:Array MapEntry} {f:Value→Option Value} (h:MapOf d es f) {k v:Value} {born:Nat} (hk:IsKey d k) (hn:∀x∈es.toList,x.key≠k):MapOf d (es.push ⟨k,v,born⟩) (fput f k v):=by
 refine⟨fun x hx=>?_,?_,fun x hx=>?_,fun q u hq=>?_⟩
 ·simp only[Array.toList_push,List.mem_append,List.mem_singleton]at hx
  rcases hx with hx|rfl
  ·exact h.key x hx
  ·exact hk
 ·simp only[Array.toList_push,List.map_append,List.map_cons,List.map_nil]
  refine List.nodup_append.2 ⟨h.nodup,by simp,fun a ha b hb=>?_⟩
  simp only[List.mem_singleton]at hb
  subst hb
  obtain⟨x,hx,rfl⟩:=List.mem_map.1 ha
  exact hn x hx
 ·simp only[Array.toList_push,List.mem_append,List.mem_singleton]at hx
  rcases hx with hx|rfl
  ·simp[fput,hn x hx,h.val x hx]
  ·simp[fput]
 ·by_cases hqk:q=k
  ·exact⟨⟨k,v,born⟩,by simp,hqk.symm⟩
  ·simp only[fput,if_neg hqk]at hq
   obtain⟨x,hx,hxk⟩:=h.has q u hq
   exact⟨x,by simp[hx],hxk⟩
theorem MapOf.turn {d:TypeDesc} {es:Array MapEntry} {f:Value→Option Value} (h:MapOf d es f) {k v:Value} {j:Nat} {e:MapEntry} (hj:es.toList[j]?=some e) (he:e.key=k):MapOf d (es.modify j fun x=>{ x with key:=k,val:=v }) (fput f k v):=by
 subst he
 have hj':es[j]?=some e:=by simpa using hj
 have hkeys:(es.modify j fun x=>{ x with key:=e.key,val:=v }).toList.map (·.key)=es.toList.map (·.key):=modify_keys j _ (fun x hx=>by rw[hj']at hx;cases hx;rfl)
 have who:∀x∈(es.modify j fun x=>{ x with key:=e.key,val:=v }).toList,(x.key=e.key∧x.val=v)∨(x∈es.toList∧x.key≠e.key):=fun x hx=>by
  obtain⟨i,hi⟩:=List.getElem?_of_mem hx
  rw[Array.getElem?_toList,Array.getElem?_modify]at hi
  by_cases hij:j=i
  ·subst hij
   rw[if_pos rfl,hj']at hi
   simp only[Option.map_some,Option.some.injEq]at hi
   rw[←hi]
   exact .inl ⟨rfl,rfl⟩
  ·rw[if_neg hij]at hi
   exact .inr ⟨Array.mem_toList_iff.2 (Array.mem_of_getElem? hi),h.other hj (by simpa using hi) (Ne.symm hij)⟩
 refine⟨isKey_modify h.key j _ (fun x hx=>by rw[hj']at hx;cases hx;rfl),by rw[hkeys];exact h.nodup,fun x hx=>?_,fun q u hq=>?_⟩
 ·rcases who x hx with ⟨h1,h2⟩|⟨h1,h2⟩
  ·simp[fput,h1,h2]
  ·simp[fput,h2,h.val x h1]
 ·have hmem:q∈es.toList.map (·.key):=by
   by_cases hqk:q=e.key
   ·rw[hqk];exact List.mem_map.2 ⟨e,List.mem_of_getElem? hj,rfl⟩
   ·simp only[fput,if_neg hqk]at hq
    obtain⟨x,hx,hxk⟩:=h.has q u hq
    exact List.mem_map.2 ⟨x,hx,hxk⟩
  rw[←hkeys]at hmem
  obtain⟨x,hx,hxk⟩:=List.mem_map.1 hmem
  exact⟨x,hx,hxk⟩
theorem MapOf.drop {d:TypeDesc} {es:Array MapEntry} {f:Value→Option Value} (h:MapOf d es f) {k:Value} {j:Nat} {e:MapEntry} (hj:es.toList[j]?=some e) (he:e.key=k):MapOf d (es.eraseIdxIfInBounds j) (fdel f k):=by
 subst he
 have hlt:j<es.size:=by simpa using(List.getElem?_eq_some_iff.1 hj).1
 have hl:(es.eraseIdxIfInBounds j).toList=es.toList.eraseIdx j:=by
  unfold Array.eraseIdxIfInBounds
  rw[dif_pos hlt]
  simp
 have hsub:=List.eraseIdx_sublist es.toList j
 refine⟨fun x hx=>?_,?_,fun x hx=>?_,fun q u hq=>?_⟩
 ·rw[hl]at hx
  exact h.key x (hsub.subset hx)
 ·rw[hl]
  exact(hsub.map _).nodup h.nodup
 ·rw[hl]at hx
  obtain⟨i,hne,hi⟩:=List.mem_eraseIdx_iff_getElem?.1 hx
  simp[fdel,h.other hj hi hne,h.val x (hsub.subset hx)]
 ·by_cases hqk:q=e.key
  ·simp[fdel,hqk]at hq
  ·simp only[fdel,if_neg hqk]at hq
   obtain⟨x,hx,hxk⟩:=h.has q u hq
   obtain⟨i,hi⟩:=List.getElem?_of_mem hx
   refine⟨x,?_,hxk⟩
   rw[hl]
   refine List.mem_eraseIdx_iff_getElem?.2 ⟨i,fun hij=>hqk ?_,hi⟩
   subst hij
   rw[hj]at hi
   cases hi
   exact hxk.symm
def lookOf (n:Nat) (ops:Array Oper) (E:Env) (i:Nat):Option (Value×Value×TypeId×Bool×Option Tmp):=
 match ops[i]? with
 | none=>none
 | some o=>if dstOk n o.dst then match o.guard with
  | some _=>none
  | none=>match o.op with
   | .lookup t m x c=>match opsOk E none [m,x]with
    | some []=>some (rho E m,rho E x,t,c,o.dst)
    | _=>none
   | _=>none
  else none
def putOf (n:Nat) (ops:Array Oper) (E:Env) (i:Nat):Option (Value×Value×Value×TypeId×Option Tmp):=
 match ops[i]? with
 | none=>none
 | some o=>if dstOk n o.dst then match o.guard with
  | some _=>none
  | none=>match o.op with
   | .mapUpdate t m x v=>match opsOk E none [m,x,v]with
    | some []=>some (rho E m,rho E x,rho E v,t,o.dst)
    | _=>none
   | _=>none
  else none
section maps
variable {P:Program} {f:Func} [Pan f] {R:Act→World→Prop} {n:Nat} [Dfr n] {k:List Itm} {E:Env} {h r:List (Nat×Obj)} {F:List (List Nat×World)} {Y:Ghost}
theorem putOf_sound {ops:Array Oper} {i:Nat} {mv xv vv:Value} {t:TypeId} {dst:Option Tmp} (he:putOf n ops E i=some (mv,xv,vv,t,dst))
  {a:Act} {w:World} {fps:List (List Nat)} (s:StF n E h r F Y a w fps) {K:Act→World→Prop}
  (H:∃w',(Instr.mapUpdate t mv xv vv).run P w=.ok () w'∧∀a',Ag n (E.put dst (.val undef)) a'→K a' w'):wpOp P ops (wpK P f R k) i K a w:=by
 unfold putOf at he
 split at he
 ·cases he
 rename_i o ho
 split at he
 case isFalse=>cases he
 rename_i hd
 split at he
 ·cases he
 rename_i hg
 split at he
 case h_2=>cases he
 rename_i t' m x v hc
 split at he
 case h_2=>cases he
 rename_i hq
 simp only[Option.some.injEq,Prod.mk.injEq]at he
 obtain⟨rfl,rfl,rfl,rfl,rfl⟩:=he
 have hev:=opsOk_sound s.ag (fun c w h=>by cases h) _ _ hq trivial
 have e1:a.eval m=rho E m:=hev m (by simp)
 have e2:a.eval x=rho E x:=hev x (by simp)
 have e3:a.eval v=rho E v:=hev v (by simp)
 obtain⟨w',hrun,hk⟩:=H
 unfold wpOp
 simp only[ho]
 rw[if_pos (by simp[Region.wanted,hg])]
 refine .inl ?_
 unfold Oper.wp execOp
 simp only[hc,Sem.run_bind,Sem.run_pure,Result.andThen_ok,e1,e2,e3,hrun]
 exact hk _ (s.ag.put hd (.val undef))
def lkV (c:Bool) (v:Value) (ok:Bool):Value:=match c with
 | true=>.tuple #[v,.bool ok]
 | false=>v
theorem JR_setmap {id L0 i p b:Nat} {ck:Bool} {Wp:List (Nat×List Nat)} {rest:List (Nat×Bool)} {dst:Option Tmp} {v:Value} {o o':Obj} (hok:(!ck||okW L0 (Wp.lookup i) [p])=true) (hp:h[p]?=some (b,o))
  {BB:Nat} {Hd:List Nat} {a a':Act} {w:World} {fps:List (List Nat)} (s:StF n E h r F Y a w fps) (hH:∀b∈fps.flatten,b∈Hd∨BB≤b) (hR:RI Hd BB L0 h r w) (hN:New BB L0 h) (hW:okWp L0 Wp=true) (hA:Ag n (E.put dst (.val v)) a')
  (H:JR P f R n (rgOf f id) L0 ck rest (Wp.filter (·.1 != i)) k (E.put dst (.val v)) (h.set p (b,o')) r F Y) :
  (ck=true→BG BB ((idsW Hd h Wp).lookup i) w { w with heap:=w.heap.setIfInBounds b o' })∧PW P (rgOf f id) (wpK P f R k) BB ck rest ((idsW Hd h Wp).filter (·.1 != i)) a' { w with heap:=w.heap.setIfInBounds b o' }:=by
 have d:Did h (h.set p (b,o')) [p] w { w with heap:=w.heap.setIfInBounds b o' }:=did_set hp (List.mem_singleton.2 rfl)
 have hO:=own_set (o':=o') s.own hp
 refine⟨fun hck=>okW_sound d (by simpa [hck]using hok) hN,?_⟩
 rw[filter_idsW,←idsW_did hR.len d _ (okWp_filter hW)]
 exact H BB Hd fps a' _ (s.go hA hO d.dd) hH (hR.did d) (hN.did hR.size d) (okWp_filter hW)
end maps
end Go.Sx
end
section
namespace Go.Sx
open Go
theorem setRow_eq {w:World} {g:Nat} {cs cs':Array Value} {e:TypeId} (hw:w.heap[g]?=some (.cells cs e (0,0))):w.setRow g cs'={ w with heap:=w.heap.setIfInBounds g (.cells cs' e (0,0)) }:=by
 unfold World.setRow
 congr 1
 apply Array.ext_getElem?
 intro j
 rw[Array.getElem?_modify,Array.getElem?_setIfInBounds]
 by_cases hj:g=j
 ·subst hj
  have:g<w.heap.size:=(Array.getElem?_eq_some_iff.1 hw).1
  simp only[if_true,hw,Option.map_some,this]
 ·simp[hj]
def seg (cur:Array Value) (o:Nat) (vs:List Value):Array Value:=(cur.toList.take o++vs++cur.toList.drop (o+vs.length)).toArray
def stOf (n:Nat) (ops:Array Oper) (E:Env) (i:Nat):Option (Value×Value×TypeId×Option Tmp):=
 match ops[i]? with
 | none=>none
 | some o=>if dstOk n o.dst then match o.guard with
  | some _=>none
  | none=>match o.op with
   | .store t a x=>match opsOk E none [a,x]with
    | some []=>some (rho E a,rho E x,t,o.dst)
    | _=>none
   | _=>none
  else none
section rows
variable {P:Program} {f:Func} [Pan f] {R:Act→World→Prop} {n:Nat} [Dfr n] {k:List Itm} {E:Env} {h r:List (Nat×Obj)} {F:List (List Nat×World)} {Y:Ghost}
theorem stOf_sound {ops:Array Oper} {i:Nat} {av xv:Value} {t:TypeId} {dst:Option Tmp} (he:stOf n ops E i=some (av,xv,t,dst))
  {a:Act} {w:World} {fps:List (List Nat)} (s:StF n E h r F Y a w fps) {K:Act→World→Prop}
  (H:∃w',(Instr.storeAt t av xv).run P w=.ok () w'∧∀a',Ag n (E.put dst (.val undef)) a'→K a' w'):wpOp P ops (wpK P f R k) i K a w:=by
 unfold stOf at he
 split at he
 ·cases he
 rename_i o ho
 split at he
 case isFalse=>cases he
 rename_i hd
 split at he
 ·cases he
 rename_i hg
 split at he
 case h_2=>cases he
 rename_i t' m x hc
 split at he
 case h_2=>cases he
 rename_i hq
 simp only[Option.some.injEq,Prod.mk.injEq]at he
 obtain⟨rfl,rfl,rfl,rfl⟩:=he
 have hev:=opsOk_sound s.ag (fun c w h=>by cases h) _ _ hq trivial
 have e1:a.eval m=rho E m:=hev m (by simp)
 have e2:a.eval x=rho E x:=hev x (by simp)
 obtain⟨w',hrun,hk⟩:=H
 unfold wpOp
 simp only[ho]
 rw[if_pos (by simp[Region.wanted,hg])]
 refine .inl ?_
 unfold Oper.wp execOp
 simp only[hc,Sem.run_bind,Sem.run_pure,Result.andThen_ok,e1,e2,hrun]
 exact hk _ (s.ag.put hd (.val undef))
theorem JR_storerow {id L0 i:Nat} {ck:Bool} {Wp:List (Nat×List Nat)} {rest:List (Nat×Bool)} (p g o t e:Nat) (v:Value) (vs:List Value) (dst:Option Tmp) {cur:Array Value} {size:Nat}
  (he:stOf n (rgOf f id) E i=some (.pointer (some ⟨g,o,none⟩),v,t,dst)) (hok:(!ck||okW L0 (Wp.lookup i) [p])=true) (hi:(P.info? t).map (·.size)=some size) (hvs:v.cells.size=size) (hv2:v.cells.toList=vs)
  (hp:h[p]?=some (g,.cells cur e (0,0))) (hl:o+size≤cur.size) (h1:∀u∈vs,u.oneCell'=true)
  (A:JR P f R n (rgOf f id) L0 ck rest (Wp.filter (·.1 != i)) k (E.put dst (.val undef)) (h.set p (g,.cells (seg cur o vs) e (0,0))) r F Y) :
  JR P f R n (rgOf f id) L0 ck ((i,false)::rest) Wp k E h r F Y:=by
 subst hv2
 intro BB Hd fps a w s hH hR hN hW
 simp only[PW]
 have hb:w.heap[g]?=some (.cells cur e (0,0)):=s.own.own _ (List.mem_of_getElem? hp)
 obtain⟨inf,hinf,hz⟩:=Option.map_eq_some_iff.1 hi
 have hrun:=run_storeCells_at (P:=P) g o e v.cells.toList 0 cur w hb (by simpa [hvs]using hl) h1
 rw[setRow_eq hb,Nat.add_zero]at hrun
 refine stOf_sound he s ⟨{ w with heap:=w.heap.setIfInBounds g (.cells (seg cur o v.cells.toList) e (0,0)) },?_,fun a' hA=>JR_setmap hok hp s hH hR hN hW hA A⟩
 have hsure:(Instr.sureAddr (.pointer (some ⟨g,o,none⟩))).run P w=.ok ⟨g,o,none⟩ w:=rfl
 have hst:(storeVar t ⟨g,o,none⟩ v).run P w=.ok () { w with heap:=w.heap.setIfInBounds g (.cells (seg cur o v.cells.toList) e (0,0)) }:=by
  have hsz:(sizeOf t).run P w=.ok size w:=by simp[sizeOf,typeInfo,hinf,hz,Result.andThen]
  simp only[storeVar,Sem.run_bind,hsz,Result.andThen_ok]
  rw[if_neg (by simp[hvs])]
  simpa [seg]using hrun
 simp only[Instr.storeAt,Sem.run_bind,hsure,Result.andThen_ok,hst]
end rows
theorem seg_len {cur:Array Value} {o:Nat} {vs:List Value} (h:o+vs.length≤cur.size):(seg cur o vs).size=cur.size:=by
 simp[seg]
 omega
theorem Row.cut {cur:Array Value} {cap n size:Nat} {xs:List Value} (h:Row cur cap n size xs) {i:Nat} (hi:i≤n):Row cur cap i size (xs.take (i*size)):=by
 have hle:i*size≤n*size:=Nat.mul_le_mul_right size hi
 refine⟨?_,h.siz,Nat.le_trans hi h.le,h.max,?_⟩
 ·rw[List.length_take,h.len]
  omega
 ·rw[←h.take,List.take_take]
  congr 1
  omega
theorem Row.turn {cur:Array Value} {cap n size:Nat} {xs vs:List Value} (h:Row cur cap n size xs) {i:Nat} (hi:i<n) (hv:vs.length=size):Row (seg cur (i*size) vs) cap n size (xs.take (i*size)++vs++xs.drop (i*size+size)):=by
 have h1:i*size+size≤n*size:=by
  have:=Nat.mul_le_mul_right size (Nat.succ_le_of_lt hi)
  rwa[Nat.succ_mul]at this
 have h2:n*size≤cap*size:=Nat.mul_le_mul_right size h.le
 have hs:=h.siz
 refine⟨?_,?_,h.le,h.max,?_⟩
 ·simp only[List.length_append,List.length_take,List.length_drop,h.len,hv]
  omega
 ·rw[seg_len (by omega)]
  exact hs
 ·rw[←h.take]
  apply List.ext_getElem?
  intro j
  simp only[seg,List.getElem?_take,List.getElem?_append,List.length_append,List.length_take,List.getElem?_drop,Array.length_toList,hv]
  by_cases hj:j<n*size
  ·rw[if_pos hj]
   have e1:min (i*size) cur.size=i*size:=by omega
   have e2:min (i*size) (min (n*size) cur.size)=i*size:=by omega
   rw[e1,e2]
   by_cases hj1:j<i*size
   ·have e3:j<i*size+size:=by omega
    simp[hj1,hj,e3]
   ·by_cases hj2:j<i*size+size
    ·simp[hj1,hj2]
    ·have hlt:i*size+size+(j - (i*size+size))<n*size:=by omega
     simp[hj2,hlt]
  ·rw[if_neg hj]
   have e2:min (i*size) (min (n*size) cur.size)=i*size:=by omega
   rw[e2]
   have hj1:¬j<i*size+size:=by omega
   have hj3:¬i*size+size+(j - (i*size+size))<n*size:=by omega
   simp[hj1,hj3]
theorem Row.atx {cur:Array Value} {cap n size:Nat} {xs:List Value} (h:Row cur cap n size xs) {j:Nat} {u:Value} (hu:xs[j]?=some u):cur[j]?=some u:=by
 have hj:=(List.getElem?_eq_some_iff.1 hu).1
 rw[h.len]at hj
 rw[h.at hj,hu]
theorem Row.set1 {cur:Array Value} {cap n size:Nat} {xs:List Value} (h:Row cur cap n size xs) (o:Nat) (v:Value):Row (cur.setIfInBounds o v) cap n size (xs.set o v):=
 ⟨by rw[List.length_set,h.len],by rw[Array.size_setIfInBounds,h.siz],h.le,h.max,by rw[Array.toList_setIfInBounds,List.take_set,h.take]⟩
def cRows (xs:List Value) (k:Nat) (rows:List (List D)):Chunk where
 P w S fp:=fp=[]∧RowsAt w S xs k rows
 mono:=by
  intro w w' S S' fp h _ hS
  exact⟨h.1,h.2.mono hS⟩
section more0
variable {P:Program} {f:Func} [Pan f] {R:Act→World→Prop} {n:Nat} [Dfr n] {kk:List Itm} {E:Env} {h r:List (Nat×Obj)} {F:List (List Nat×World)} {Y:Ghost}
theorem StF.hide1 {a:Act} {w:World} {fps:List (List Nat)} (s:StF n E h r F Y a w fps) (p:Nat) {b:Nat} {o:Obj} (hp:h[p]?=some (b,o)):StF n E (h.eraseIdx p) r F ⟨Y.S,Y.C++[cObj b o],Y.G⟩ a w (fps++[[b]]):=by
 have hm:∀x∈h.eraseIdx p,x∈h:=fun x hx=>(List.eraseIdx_sublist h p).subset hx
 have hid:∀c,c∈(h.eraseIdx p).map (·.1)→c∈h.map (·.1):=fun c hc=>by
  obtain⟨x,hx,rfl⟩:=List.mem_map.1 hc
  exact List.mem_map.2 ⟨x,hm x hx,rfl⟩
 have hnot:b∉(h.eraseIdx p).map (·.1):=fun hc=>by
  obtain⟨x,hx,hxb⟩:=List.mem_map.1 hc
  obtain⟨j,hj,he⟩:=List.mem_eraseIdx_iff_getElem?.1 hx
  have h1:(h.map (·.1))[j]?=some b:=by simp[he,hxb]
  have h2:(h.map (·.1))[p]?=some b:=by simp[hp]
  exact hj ((List.getElem?_inj (List.getElem?_eq_some_iff.1 h1).1 s.own.nodup).1 (h1.trans h2.symm))
 have hbm:(b,o)∈h:=List.mem_of_getElem? hp
 have e:(fps++[[b]]).flatten=fps.flatten++[b]:=by simp
 have hS:∀c,Sd Y h fps c→Sd Y (h.eraseIdx p) (fps++[[b]]) c:=fun c hc=>⟨hc.1,fun hx=>hc.2.1 (hid c hx),fun hx=>by
  rw[e]at hx
  rcases List.mem_append.1 hx with hx|hx
  ·exact hc.2.2 hx
  ·rw[List.mem_singleton]at hx
   subst hx
   exact hc.2.1 (List.mem_map.2 ⟨_,hbm,rfl⟩)⟩
 have hin:∀c,c∈(fps++[[b]]).flatten→c∈fps.flatten∨c=b:=fun c hc=>by
  rw[e]at hc
  simpa using hc
 refine⟨s.ag,⟨fun x hx=>s.own.own x (hm x hx),((List.eraseIdx_sublist h p).map _).nodup s.own.nodup,s.own.ro,fun x hx hc=>s.own.apart x hx (hid _ hc)⟩,s.fr,fun f hf x hx=>s.may f hf x (hm x hx),
  ⟨(s.gh.chs.mono (fun _ _=>rfl) fun c hc _=>⟨hS c hc,rfl⟩).app ⟨⟨rfl,s.own.own _ hbm⟩,trivial⟩,?_,fun c hc hx=>?_,fun x hx hc=>?_,fun f hf c hc=>?_,fun c hc=>?_,fun x hx=>s.gh.own x (hm x hx),fun c hc=>?_,s.gh.top,fun x hx=>(s.gh.g x hx).mono fun c hc _=>⟨hS c hc,rfl⟩⟩⟩
 ·rw[e,List.nodup_append]
  refine⟨s.gh.nodup,by simp,fun x hx y hy hxy=>?_⟩
  simp at hy
  subst hy hxy
  exact s.gh.disj _ hx (List.mem_map.2 ⟨_,hbm,rfl⟩)
 ·rcases hin c hc with h1|rfl
  ·exact s.gh.disj c h1 (hid c hx)
  ·exact hnot hx
 ·rcases hin _ hc with h1|h1
  ·exact s.gh.apart x hx h1
  ·exact s.own.apart x hx (List.mem_map.2 ⟨_,hbm,h1.symm⟩)
 ·rcases hin c hc with h1|rfl
  ·exact s.gh.may f hf c h1
  ·exact s.may f hf _ hbm
 ·rcases hin c hc with h1|rfl
  ·exact s.gh.lt c h1
  ·exact s.own.own.lt hbm
 ·rcases hin c hc with h1|rfl
  ·exact s.gh.hid c h1
  ·exact s.gh.own _ hbm
end more0
section more
variable {P:Program} {f:Func} [Pan f] {R:Act→World→Prop} {n:Nat} [Dfr n] {kk:List Itm} {E:Env} {h r:List (Nat×Obj)} {F:List (List Nat×World)}
def accParts (a:Option Addr) (m c e k:Nat) (rows:List (List D)) (x:Nat×Array Value×List Value):Chunk:=cStar [cPure (a=some ⟨x.1,0,none⟩∧m=rows.length∧0<k∧Row x.2.1 c rows.length k x.2.2),cObj x.1 (.cells x.2.1 e (0,0)),cRows x.2.2 k rows]
theorem J_openacc {S0:Nat→Prop} {C0:List Chunk} {G0:List (Value×D)} (q:Nat) {a:Option Addr} {m c e k:Nat} {rows:List (List D)} (hq:C0[q]?=some (cAcc (.slice a m c) e k rows)) (hne:rows≠[])
  (H:∀g cur xs,a=some ⟨g,0,none⟩→m=rows.length→0<k→Row cur c rows.length k xs→J P f R n kk E (h++[(g,.cells cur e (0,0))]) r F ⟨S0,C0.eraseIdx q++[cRows xs k rows],G0⟩):J P f R n kk E h r F ⟨S0,C0,G0⟩:=by
 have hv:(cAcc (.slice a m c) e k rows).eqv (cExi (accParts a m c e k rows)):=by
  intro w S fp ⟨hk,hP⟩
  rcases hP with ⟨h1,_⟩|⟨g,cap,cur,xs,h1,rfl,h3,h4,h5⟩
  ·exact absurd h1 hne
  ·cases h1
   have hch:Chs w S [cPure (some (⟨g,0,none⟩:Addr)=some ⟨g,0,none⟩∧rows.length=rows.length∧0<k∧Row cur c rows.length k xs),cObj g (.cells cur e (0,0)),cRows xs k rows] [[],[g],[]]:=⟨⟨rfl,rfl,rfl,hk,h4⟩,⟨rfl,h3⟩,⟨rfl,h5⟩,trivial⟩
   exact⟨(g,cur,xs),[[],[g],[]],by simp,hch⟩
 refine J_stp (stp_conv q hq hv) ?_
 have hql:=(List.getElem?_eq_some_iff.1 hq).1
 refine J_stpx (stp_exi (g:=accParts a m c e k rows) q (by rw[List.getElem?_set_self hql])) fun x _=>?_
 obtain⟨g,cur,xs⟩:=x
 rw[List.set_set]
 refine J_stp (stp_star (cs:=[cPure (a=some ⟨g,0,none⟩∧m=rows.length∧0<k∧Row cur c rows.length k xs),cObj g (.cells cur e (0,0)),cRows xs k rows]) q (by rw[List.getElem?_set_self hql];rfl)) ?_
 have e0:∀y:Chunk,(C0.set q y).eraseIdx q=C0.eraseIdx q:=fun y=>by
  apply List.ext_getElem?
  intro j
  rw[List.getElem?_eraseIdx,List.getElem?_eraseIdx]
  split
  ·rw[List.getElem?_set_ne (by omega)]
  ·rw[List.getElem?_set_ne (by omega)]
 rw[e0]
 have hl:(C0.eraseIdx q).length=C0.length - 1:=by rw[List.length_eraseIdx,if_pos hql]
 refine J_stpx (stp_pure (p:=a=some ⟨g,0,none⟩∧m=rows.length∧0<k∧Row cur c rows.length k xs) (C0.eraseIdx q).length (by rw[List.getElem?_append_right (Nat.le_refl _),Nat.sub_self];rfl)) fun _ hp=>?_
 rw[List.eraseIdx_append_of_length_le (Nat.le_refl _)]
 simp only[Nat.sub_self,List.eraseIdx_cons_zero]
 refine J_show (b:=g) (o:=.cells cur e (0,0)) (C0.eraseIdx q).length (by rw[List.getElem?_append_right (Nat.le_refl _),Nat.sub_self];rfl) ?_
 rw[List.eraseIdx_append_of_length_le (Nat.le_refl _)]
 simp only[Nat.sub_self,List.eraseIdx_cons_zero]
 exact H g cur xs hp.1 hp.2.1 hp.2.2.1 hp.2.2.2
theorem stp_readrows {S0:Nat→Prop} {C0:List Chunk} {G0:List (Value×D)} (q:Nat) {xs:List Value} {k:Nat} {rows:List (List D)} (hq:C0[q]?=some (cRows xs k rows)) (i:Nat) {row:List D} (hrow:rows[i]?=some row) :
  Stp h r F ⟨S0,C0,G0⟩ (fun ls:List (Option Addr×Nat)=>ls.length=sls row∧∀(j:Nat) u,(inst row ls)[j]?=some u→xs[i*k+j]?=some u) fun ls=>⟨S0,C0,G0++deep row ls⟩:=by
 intro w fps hO H
 obtain⟨fp,hfp,_,hP⟩:=H.chs.at hq
 have hu:∀j d,row[j]?=some d→∃u,xs[i*k+j]?=some u∧Rep w (Sd ⟨S0,C0,G0⟩ h fps) u d:=fun j d hd=>hP.rep i j row d hrow hd
 obtain⟨ls,h1,h2,h3⟩:=inst_ex row (fun j=>xs.getD (i*k+j) undef) fun j d hd=>by
  obtain⟨u,hu1,hu2⟩:=hu j d hd
  simpa [List.getD_eq_getElem?_getD,hu1]using hu2
 refine⟨ls,fps,⟨h1,fun j u hj=>?_⟩,fun _ hb=>hb,H.less (fun _ hb=>hb) H.nodup H.chs fun x hx=>?_⟩
 ·have hjl:j<row.length:=by
   have:=(List.getElem?_eq_some_iff.1 hj).1
   rwa[inst_len]at this
  obtain⟨u',hu1,_⟩:=hu j _ (List.getElem?_eq_getElem hjl)
  have:=h2 j u hj
  rw[this]
  simp[List.getD_eq_getElem?_getD,hu1]
 ·rcases List.mem_append.1 hx with hx|hx
  ·exact H.g x hx
  ·exact h3 x hx
theorem RowsAt.set {w:World} {S:Nat→Prop} {xs:List Value} {k:Nat} {rows:List (List D)} (h:RowsAt w S xs k rows) (hl:xs.length=rows.length*k) {i j:Nat} {row:List D} {v:Value} {d:D} (hrow:rows[i]?=some row) (hj:j<k) (hv:Rep w S v d) :
  RowsAt w S (xs.set (i*k+j) v) k (rows.set i (row.set j d)):=by
 have hil:=(List.getElem?_eq_some_iff.1 hrow).1
 refine⟨fun row' hr=>?_,fun i' j' row' d' hi' hj'=>?_⟩
 ·rcases List.mem_or_eq_of_mem_set hr with hr|rfl
  ·exact h.len row' hr
  ·rw[List.length_set]
   exact h.len row (List.mem_of_getElem? hrow)
 ·by_cases hii:i=i'
  ·subst hii
   rw[List.getElem?_set_self hil]at hi'
   cases hi'
   by_cases hjj:j=j'
   ·subst hjj
    have hjl:=(List.getElem?_eq_some_iff.1 hj').1
    rw[List.length_set]at hjl
    rw[List.getElem?_set_self hjl]at hj'
    cases hj'
    exact⟨v,by rw[List.getElem?_set_self (by rw[hl];exact idx_lt hil hj)],hv⟩
   ·rw[List.getElem?_set_ne hjj]at hj'
    obtain⟨u,h1,h2⟩:=h.rep i j' row d' hrow hj'
    exact⟨u,by rw[List.getElem?_set_ne (by omega)];exact h1,h2⟩
  ·rw[List.getElem?_set_ne hii]at hi'
   obtain⟨u,h1,h2⟩:=h.rep i' j' row' d' hi' hj'
   have hjl:j'<k:=by
    rw[←h.len row' (List.mem_of_getElem? hi')]
    exact(List.getElem?_eq_some_iff.1 hj').1
   refine⟨u,?_,h2⟩
   rw[List.getElem?_set_ne ?_]
   ·exact h1
   ·intro he
    rcases Nat.lt_or_gt_of_ne hii with h3|h3
    ·have:=Nat.mul_le_mul_right k (Nat.succ_le_of_lt h3)
     rw[Nat.succ_mul]at this
     omega
    ·have:=Nat.mul_le_mul_right k (Nat.succ_le_of_lt h3)
     rw[Nat.succ_mul]at this
     omega
theorem stp_setrows {S0:Nat→Prop} {C0:List Chunk} {G0:List (Value×D)} (q p i j:Nat) {xs:List Value} {k:Nat} {rows:List (List D)} {row:List D} {v:Value} {d:D} (hq:C0[q]?=some (cRows xs k rows)) (hl:xs.length=rows.length*k) (hrow:rows[i]?=some row) (hj:j<k) (hp:G0[p]?=some (v,d)) :
  Stp h r F ⟨S0,C0,G0⟩ (fun _:Unit=>True) fun _=>⟨S0,C0.set q (cRows (xs.set (i*k+j) v) k (rows.set i (row.set j d))),G0⟩:=by
 intro w fps hO H
 obtain⟨fp,hfp,hnil,hP⟩:=H.chs.at hq
 have hc:(cRows (xs.set (i*k+j) v) k (rows.set i (row.set j d))).P w (Sd ⟨S0,C0,G0⟩ h fps) fp:=⟨hnil,hP.set hl hrow hj (H.g _ (List.mem_of_getElem? hp))⟩
 have hs:=H.chs.set hc (i:=q)
 have e:fps.set q fp=fps:=set_same hfp
 rw[e]at hs
 exact⟨(),fps,trivial,fun _ hb=>hb,H.less (fun _ hb=>hb) H.nodup hs H.g⟩
theorem stp_closeacc {S0:Nat→Prop} {C0:List Chunk} {G0:List (Value×D)} (q1 q2:Nat) {g c e k:Nat} {cur:Array Value} {xs:List Value} {rows:List (List D)} (h1:C0[q1]?=some (cObj g (.cells cur e (0,0)))) (h2:C0[q2]?=some (cRows xs k rows)) (hrow:Row cur c rows.length k xs) (hk:0<k) :
  Stp h r F ⟨S0,C0,G0⟩ (fun _:Unit=>True) fun _=>⟨S0,pick C0 (others C0.length [q1,q2])++[cAcc (.slice (some ⟨g,0,none⟩) rows.length c) e k rows],G0⟩:=by
 intro w fps hO H
 obtain⟨fp1,hf1,rfl,hb⟩:=H.chs.at h1
 obtain⟨fp2,hf2,rfl,hR⟩:=H.chs.at h2
 have hlen:=H.chs.len
 have hq1:q1<C0.length:=(List.getElem?_eq_some_iff.1 h1).1
 have hnd:(others C0.length [q1,q2]++[q1]).Nodup:=by
  rw[List.nodup_append]
  refine⟨List.Nodup.sublist List.filter_sublist List.nodup_range,by simp,fun x hx y hy hxy=>?_⟩
  simp only[List.mem_singleton]at hy
  subst hy hxy
  simp[others]at hx
 have hE:pick fps (others C0.length [q1,q2])++[[g]]=pick fps (others C0.length [q1,q2]++[q1]):=by
  rw[pick_app]
  simp[pick,hf1]
 have hsub:∀b∈(pick fps (others C0.length [q1,q2])++[[g]]).flatten,b∈fps.flatten:=fun b hb=>by
  rw[hE]at hb
  exact pick_flat_sub hb
 have hS:∀b,Sd ⟨S0,C0,G0⟩ h fps b→Sd ⟨S0,C0,G0⟩ h (pick fps (others C0.length [q1,q2])++[[g]]) b:=fun b hb=>Sd_sub hsub hb
 refine⟨(),_,trivial,hsub,H.less hsub (by rw[hE];exact pick_flat_nodup H.nodup hnd) ?_ fun x hx=>(H.g x hx).mono fun b hb _=>⟨hS b hb,rfl⟩⟩
 have hc:(cAcc (.slice (some ⟨g,0,none⟩) rows.length c) e k rows).P w (Sd ⟨S0,C0,G0⟩ h (pick fps (others C0.length [q1,q2])++[[g]])) [g]:=⟨hk,.inr ⟨g,c,cur,xs,rfl,rfl,hb,hrow,hR.mono fun b hb _=>⟨hS b hb,rfl⟩⟩⟩
 exact((H.chs.pick _).mono (fun _ _=>rfl) fun b hb _=>⟨hS b hb,rfl⟩).app (show Chs w _ [_] [[g]] from⟨hc,trivial⟩)
theorem accz_eqv (b e k:Nat) (hk:0<k):(cObj b (.cells #[] e (0,0))).eqv (cAcc (.slice (some ⟨b,0,none⟩) 0 0) e k []):=fun w S fp h=>
 ⟨hk,.inr ⟨b,0,#[],[],rfl,h.1,h.2,⟨by simp,by simp,Nat.le_refl _,Nat.zero_le _,by simp⟩,RowsAt.nil _ _ _ _⟩⟩
theorem JR_accz {S0:Nat→Prop} {C0:List Chunk} {G0:List (Value×D)} {ops:Array Oper} {L0:Nat} {ck:Bool} {plan:List (Nat×Bool)} {Wp:List (Nat×List Nat)} (p k:Nat) {b e:Nat} (hp:h[p]?=some (b,.cells #[] e (0,0))) (hL:Nat.ble L0 p=true) (hk:0<k)
  (H:JR P f R n ops L0 ck plan Wp kk E (h.eraseIdx p) r F ⟨S0,C0++[cAcc (.slice (some ⟨b,0,none⟩) 0 0) e k []],G0⟩):JR P f R n ops L0 ck plan Wp kk E h r F ⟨S0,C0,G0⟩:=by
 have H2:JR P f R n ops L0 ck plan Wp kk E (h.eraseIdx p) r F ⟨S0,C0++[cObj b (.cells #[] e (0,0))],G0⟩:=by
  refine JR_stp (stp_conv C0.length (by simp) (accz_eqv b e k hk)) ?_
  simpa using H
 intro B Hd fps a w s hH hR2 hN hW
 have hLp:=Nat.le_of_ble_eq_true hL
 have hpl:=(List.getElem?_eq_some_iff.1 hp).1
 have hsame:∀i:Nat,i<L0→(h.eraseIdx p)[i]?=h[i]?:=fun i hi=>by rw[List.getElem?_eraseIdx];simp[show i<p by omega]
 have hids:idsW Hd (h.eraseIdx p) Wp=idsW Hd h Wp:=by
  unfold idsW
  refine List.map_congr_left fun y hy=>?_
  congr 2
  have h1:=List.all_eq_true.1 hW y hy
  exact filterMap_same _ _ _ fun q hq=>by rw[hsame q (blt_lt (List.all_eq_true.1 h1 q hq))]
 have:=H2 B Hd _ a w (s.hide1 p hp) (fun c hc=>by
  rw[List.flatten_append]at hc
  rcases List.mem_append.1 hc with hc|hc
  ·exact hH c hc
  ·simp only[List.flatten_cons,List.flatten_nil,List.append_nil,List.mem_singleton]at hc
   subst hc
   exact .inr (hN p hLp _ hp)) ⟨fun i hi x hx=>hR2.old i hi x (by rw[←hsame i hi];exact hx),hR2.ro,by rw[List.length_eraseIdx];simp only[hpl,if_true];have:=hR2.len;omega,hR2.size⟩ (fun j hj x hx=>by
  rw[List.getElem?_eraseIdx]at hx
  split at hx
  ·exact hN j hj x hx
  ·exact hN (j+1) (by omega) x hx) hW
 rwa[hids]at this
theorem JR_acczm {β:Type} (enc:β→List D) {S0:Nat→Prop} {C0:List Chunk} {G0:List (Value×D)} {ops:Array Oper} {L0:Nat} {ck:Bool} {plan:List (Nat×Bool)} {Wp:List (Nat×List Nat)} (p k:Nat) {b e:Nat} (hp:h[p]?=some (b,.cells #[] e (0,0))) (hL:Nat.ble L0 p=true) (hk:0<k)
  (H:JR P f R n ops L0 ck plan Wp kk E (h.eraseIdx p) r F ⟨S0,C0++[cAcc (.slice (some ⟨b,0,none⟩) 0 0) e k (([]:List β).map enc)],G0⟩):JR P f R n ops L0 ck plan Wp kk E h r F ⟨S0,C0,G0⟩:=JR_accz p k hp hL hk H
end more
end Go.Sx
end
section
namespace Go.Sx
open Go Go.MapKept
def KeptP (w:World) (S:Nat→Prop) (g:Value→Option Value) (K:Value→Option (List D)):Prop:=
 (∀key,K key=none→g key=none)∧∀key row,K key=some row→∃us:List Value,g key=some (.agg us.toArray)∧us.length=row.length∧∀(j:Nat) d,row[j]?=some d→∃u,us[j]?=some u∧Rep w S u d
theorem KeptP.mono {w w':World} {S S':Nat→Prop} {g:Value→Option Value} {K:Value→Option (List D)} (h:KeptP w S g K) (hS:∀b,S b→b<w.heap.size→S' b∧w'.heap[b]?=w.heap[b]?):KeptP w' S' g K:=
 ⟨h.1,fun key row hr=>by
  obtain⟨us,h1,h2,h3⟩:=h.2 key row hr
  exact⟨us,h1,h2,fun j d hd=>by
   obtain⟨u,h4,h5⟩:=h3 j d hd
   exact⟨u,h4,h5.mono hS⟩⟩⟩
def cMap (b:Nat) (d:TypeDesc) (K:Value→Option (List D)):Chunk where
 P w S fp:=fp=[b]∧∃es clock g,w.heap[b]?=some (.map es clock)∧MapOf d es g∧KeptP w S g K
 mono:=by
  intro w w' S S' fp ⟨h,es,clock,g,h1,h2,h3⟩ hb hS
  exact⟨h,es,clock,g,(hb _ (by rw[h];simp)).trans h1,h2,h3.mono hS⟩
theorem map0_eqv (mb clock:Nat) (d:TypeDesc):(cObj mb (.map #[] clock)).eqv (cMap mb d fun _=>none):=fun _ _ _ h=>
 ⟨h.1,#[],clock,fun _=>none,h.2,MapOf.empty d,fun _ _=>rfl,fun _ _ hk=>by cases hk⟩
end Go.Sx
end
section
namespace Go.Sx
open Go
abbrev eB (b:UInt8):List D:=[.v (.int .u8 b.toNat)]
abbrev dBytes (s:ByteArray):D:=.sl 1 (s.data.toList.map eB)
def cvOf (n:Nat) (ops:Array Oper) (E:Env) (i:Nat):Option (TypeId×TypeId×Value×Option Tmp×List Ob):=
 match ops[i]? with
 | none=>none
 | some o=>if dstOk n o.dst&&!isSel o.op then match (match o.guard with
   | none=>some (none,[])
   | some (j,want)=>(guardOf E ops j).map fun c=>(some (c,want),[.bb c want]))with
  | none=>none
  | some (cd,g)=>match opsOk E cd o.op.operands.toList with
   | none=>none
   | some q=>match o.op with
    | .convert src dt x=>some (src,dt,rho E x,o.dst,g++q)
    | _=>none
  else none
def ixOf (n:Nat) (ops:Array Oper) (E:Env) (i:Nat):Option (TypeId×Value×Value×Option Tmp×List Ob):=
 match ops[i]? with
 | none=>none
 | some o=>if dstOk n o.dst&&!isSel o.op then match (match o.guard with
   | none=>some (none,[])
   | some (j,want)=>(guardOf E ops j).map fun c=>(some (c,want),[.bb c want]))with
  | none=>none
  | some (cd,g)=>match opsOk E cd o.op.operands.toList with
   | none=>none
   | some q=>match o.op with
    | .index t x ix=>some (t,rho E x,rho E ix,o.dst,g++q)
    | _=>none
  else none
def chkCv (x:Option (TypeId×TypeId×Value×Option Tmp×List Ob)):Option (TypeId×TypeId×Value×Option Tmp)×(List Nat×List Bool×List (Option Nat))×Nat:=match x with
 | some y=>(some (y.1,y.2.1,y.2.2.1,y.2.2.2.1),obL y.2.2.2.2,(obP y.2.2.2.2).length)
 | none=>(none,([],[],[]),0)
def trivCv (x:Option (TypeId×TypeId×Value×Option Tmp×List Ob)):List Nat×List Bool×List (Option Nat):=match x with
 | some y=>obR y.2.2.2.2
 | none=>([],[],[])
theorem chkCv_sound {x:Option (TypeId×TypeId×Value×Option Tmp×List Ob)} {src dt:TypeId} {v:Value} {dst:Option Tmp} (h:chkCv x=(some (src,dt,v,dst),trivCv x,0)):∃p,x=some (src,dt,v,dst,p)∧All p:=by
 cases x with
 | none=>simp[chkCv]at h
 | some y=>
  obtain⟨a,b,c,d,p⟩:=y
  simp only[chkCv,trivCv,Prod.mk.injEq,Option.some.injEq]at h
  obtain⟨⟨rfl,rfl,rfl,rfl⟩,h2,h3⟩:=h
  refine⟨p,rfl,All_of p h2 ?_⟩
  rw[List.eq_nil_of_length_eq_zero h3]
  trivial
def chkIx (x:Option (TypeId×Value×Value×Option Tmp×List Ob)):Option (TypeId×Value×Value×Option Tmp)×(List Nat×List Bool×List (Option Nat))×Nat:=match x with
 | some y=>(some (y.1,y.2.1,y.2.2.1,y.2.2.2.1),obL y.2.2.2.2,(obP y.2.2.2.2).length)
 | none=>(none,([],[],[]),0)
def trivIx (x:Option (TypeId×Value×Value×Option Tmp×List Ob)):List Nat×List Bool×List (Option Nat):=match x with
 | some y=>obR y.2.2.2.2
 | none=>([],[],[])
theorem chkIx_sound {x:Option (TypeId×Value×Value×Option Tmp×List Ob)} {src:TypeId} {dt v:Value} {dst:Option Tmp} (h:chkIx x=(some (src,dt,v,dst),trivIx x,0)):∃p,x=some (src,dt,v,dst,p)∧All p:=by
 cases x with
 | none=>simp[chkIx]at h
 | some y=>
  obtain⟨a,b,c,d,p⟩:=y
  simp only[chkIx,trivIx,Prod.mk.injEq,Option.some.injEq]at h
  obtain⟨⟨rfl,rfl,rfl,rfl⟩,h2,h3⟩:=h
  refine⟨p,rfl,All_of p h2 ?_⟩
  rw[List.eq_nil_of_length_eq_zero h3]
  trivial
section
variable {P:Program} {f:Func} [Pan f] {R:Act→World→Prop} {n:Nat} [Dfr n] {k:List Itm} {E:Env} {h r:List (Nat×Obj)} {F:List (List Nat×World)} {Y:Ghost}
theorem cvOf_sound {ops:Array Oper} {i:Nat} {src dt:TypeId} {xv:Value} {dst:Option Tmp} {p:List Ob} (he:cvOf n ops E i=some (src,dt,xv,dst,p)) (hp:All p)
  {a:Act} {w:World} {fps:List (List Nat)} (s:StF n E h r F Y a w fps) {K:Act→World→Prop} {Q:Exit→Act→World→Prop}
  (H:∃v' w',(convert src dt xv).run P w=.ok v' w'∧∀a',Ag n (E.put dst (.val v')) a'→K a' w'):wpOp P ops Q i K a w:=by
 unfold cvOf at he
 split at he
 ·cases he
 rename_i o ho
 split at he
 case isFalse=>cases he
 rename_i hd
 simp only[Bool.and_eq_true,Bool.not_eq_true']at hd
 split at he
 ·cases he
 rename_i cd g hg
 split at he
 ·cases he
 rename_i q hq
 split at he
 case h_2=>cases he
 rename_i src' dt' x hc
 simp only[Option.some.injEq,Prod.mk.injEq]at he
 obtain⟨rfl,rfl,rfl,rfl,rfl⟩:=he
 obtain⟨hg1,hq1⟩:=All_append hp
 have hwant:Region.wanted o (yielded ops a.tmps)=true∧∀c wn,cd=some (c,wn)→c=wn:=by
  cases hgd:o.guard with
  | none=>
   rw[hgd]at hg
   simp only[Option.some.injEq,Prod.mk.injEq]at hg
   refine⟨by simp[Region.wanted,hgd],fun c wn h=>?_⟩
   rw[←hg.1]at h
   cases h
  | some y=>
   obtain⟨j,want⟩:=y
   rw[hgd]at hg
   obtain⟨c,hc,hcg⟩:=Option.map_eq_some_iff.1 hg
   simp only[Prod.mk.injEq]at hcg
   obtain⟨rfl,rfl⟩:=hcg
   have hy:=guardOf_sound s.ag hc
   have hcw:c=want:=hg1.1
   refine⟨by simp[Region.wanted,hgd,hy,hcw],fun c' wn h=>?_⟩
   injection h with h
   injection h with h1 h2
   rw[←h1,←h2]
   exact hcw
 unfold wpOp
 simp only[ho]
 rw[if_pos hwant.1]
 refine .inl ?_
 obtain⟨v',w',hrun,hk⟩:=H
 unfold Oper.wp
 have hcongr:execOp a.eval o=execOp (rho E) o:=execOp_congr o (fun cs b hc=>by have:=hd.2;rw[hc]at this;cases this) (fun x hx=>opsOk_sound s.ag hwant.2 _ _ hq hq1 x (by simpa using hx))
 rw[hcongr]
 unfold execOp
 simp only[hc,Sem.run_bind,hrun,Result.andThen_ok,Sem.run_pure]
 exact hk _ (s.ag.put hd.1 (.val v'))
theorem ixOf_sound {ops:Array Oper} {i:Nat} {src:TypeId} {dt xv:Value} {dst:Option Tmp} {p:List Ob} (he:ixOf n ops E i=some (src,dt,xv,dst,p)) (hp:All p)
  {a:Act} {w:World} {fps:List (List Nat)} (s:StF n E h r F Y a w fps) {K:Act→World→Prop} {Q:Exit→Act→World→Prop}
  (H:∃v' w',(Instr.index src dt xv).run P w=.ok v' w'∧∀a',Ag n (E.put dst (.val v')) a'→K a' w'):wpOp P ops Q i K a w:=by
 unfold ixOf at he
 split at he
 ·cases he
 rename_i o ho
 split at he
 case isFalse=>cases he
 rename_i hd
 simp only[Bool.and_eq_true,Bool.not_eq_true']at hd
 split at he
 ·cases he
 rename_i cd g hg
 split at he
 ·cases he
 rename_i q hq
 split at he
 case h_2=>cases he
 rename_i src' dt' x hc
 simp only[Option.some.injEq,Prod.mk.injEq]at he
 obtain⟨rfl,rfl,rfl,rfl,rfl⟩:=he
 obtain⟨hg1,hq1⟩:=All_append hp
 have hwant:Region.wanted o (yielded ops a.tmps)=true∧∀c wn,cd=some (c,wn)→c=wn:=by
  cases hgd:o.guard with
  | none=>
   rw[hgd]at hg
   simp only[Option.some.injEq,Prod.mk.injEq]at hg
   refine⟨by simp[Region.wanted,hgd],fun c wn h=>?_⟩
   rw[←hg.1]at h
   cases h
  | some y=>
   obtain⟨j,want⟩:=y
   rw[hgd]at hg
   obtain⟨c,hc,hcg⟩:=Option.map_eq_some_iff.1 hg
   simp only[Prod.mk.injEq]at hcg
   obtain⟨rfl,rfl⟩:=hcg
   have hy:=guardOf_sound s.ag hc
   have hcw:c=want:=hg1.1
   refine⟨by simp[Region.wanted,hgd,hy,hcw],fun c' wn h=>?_⟩
   injection h with h
   injection h with h1 h2
   rw[←h1,←h2]
   exact hcw
 unfold wpOp
 simp only[ho]
 rw[if_pos hwant.1]
 refine .inl ?_
 obtain⟨v',w',hrun,hk⟩:=H
 unfold Oper.wp
 have hcongr:execOp a.eval o=execOp (rho E) o:=execOp_congr o (fun cs b hc=>by have:=hd.2;rw[hc]at this;cases this) (fun x hx=>opsOk_sound s.ag hwant.2 _ _ hq hq1 x (by simpa using hx))
 rw[hcongr]
 unfold execOp
 simp only[hc,Sem.run_bind,hrun,Result.andThen_ok,Sem.run_pure]
 exact hk _ (s.ag.put hd.1 (.val v'))
theorem JR_bytes0 {id L0 i:Nat} {ck:Bool} {Wp:List (Nat×List Nat)} {rest:List (Nat×Bool)} (src dt e:TypeId) (s:ByteArray) (dst:Option Tmp)
  (he:chkCv (cvOf n (rgOf f id) E i)=(some (src,dt,.string s,dst),trivCv (cvOf n (rgOf f id) E i),0)) (hs:P.underlying src=some .string) (hd:P.underlying dt=some (.slice e)) (hb:P.underlying e=some (.int .u8))
  (A:∀g c,JR P f R n (rgOf f id) L0 ck rest (Wp.filter (·.1 != i)) k (E.put dst (.val (.slice (some ⟨g,0,none⟩) s.size c))) h r F ⟨Y.S,Y.C++[],Y.G++[(.slice (some ⟨g,0,none⟩) s.size c,dBytes s)]⟩) :
  JR P f R n (rgOf f id) L0 ck ((i,false)::rest) Wp k E h r F Y:=by
 obtain⟨p,he,hp⟩:=chkCv_sound he
 intro B Hd fps a w st hH hR hN hW
 simp only[PW]
 have hold:∀b,b<w.heap.size→(Lib.bytesWorld w e s).heap[b]?=w.heap[b]?:=fun b hlt=>Lib.bytesWorld_at_old w e s b hlt
 have hf:Fr [] w (Lib.bytesWorld w e s):=⟨rfl,rfl,rfl,by rw[Lib.bytesWorld_size];omega,fun b hlt _=>hold b hlt,Nat.le_succ _⟩
 have hnew:=Lib.bytesWorld_at_new w e s
 have hlen:(s.data.toList.map eB).length=s.size:=by simp
 have hcap:s.size≤grownCap w s.size 0 e:=grownCap_ge _ _ _ _
 have hrep:Rep (Lib.bytesWorld w e s) (retS (Sd Y h fps) [] w []) (.slice (some ⟨w.heap.size,0,none⟩) s.size (grownCap w s.size 0 e)) (dBytes s):=by
  have:=Rep.sl (w:=Lib.bytesWorld w e s) (S:=retS (Sd Y h fps) [] w []) (off:=0) (cap:=grownCap w s.size 0 e) (k:=1) (rows:=s.data.toList.map eB) (fun i _=>.int .u8 (s.data.toList.getD i 0).toNat) hnew ⟨.inr (.inr (Nat.le_refl _)),by simp⟩ (by rw[hlen];exact hcap) (by decide) (by intro row hr;obtain⟨x,_,rfl⟩:=List.mem_map.1 hr;rfl) (fun i j hi hj=>?_) (fun i j row d hi hj=>?_)
  ·rwa[hlen]at this
  ·obtain rfl:j=0:=by omega
   rw[hlen]at hi
   have h1:i<s.data.toList.length:=by simpa using hi
   have h2:i<s.data.size:=by simpa using hi
   simp[Lib.bytesCells,Array.getElem?_append,hi,h2,List.getD_eq_getElem?_getD]
  ·rw[List.getElem?_map]at hi
   obtain⟨x,hx,rfl⟩:=Option.map_eq_some_iff.1 hi
   match j,hj with
   | 0,hj=>
    simp only[List.getElem?_cons_zero,Option.some.injEq]at hj
    subst hj
    rw[List.getD_eq_getElem?_getD,hx]
    exact .v rfl
   | j+1,hj=>simp at hj
 have hRet:Ret (pick fps []).flatten w (Sd Y h fps) (Lib.bytesWorld w e s) (.returned (.slice (some ⟨w.heap.size,0,none⟩) s.size (grownCap w s.size 0 e))) (.slice (some ⟨w.heap.size,0,none⟩) s.size (grownCap w s.size 0 e)) [] [(.slice (some ⟨w.heap.size,0,none⟩) s.size (grownCap w s.size 0 e),dBytes s)]:=
  ⟨rfl,hf,[],trivial,by simp,by simp,fun x hx=>by rw[List.mem_singleton]at hx;subst hx;exact hrep⟩
 refine cvOf_sound he hp st ⟨_,_,Lib.run_convert_string_bytes w src dt e s hs hd hb,fun a2 hA=>⟨fun hck b hb2 hl=>hold b hb2,?_⟩⟩
 rw[filter_idsW]
 obtain⟨fps',h3,s'⟩:=st.called (cs:=[]) hA hRet
 have hpk:pick Y.C (others Y.C.length [])=Y.C:=by
  have h1:others Y.C.length []=List.range Y.C.length:=by simp[others]
  rw[h1,pick_all]
 rw[hpk]at s'
 refine A w.heap.size (grownCap w s.size 0 e) B Hd _ a2 _ s' (fun b hb=>?_) ⟨hR.old,hR.ro,hR.len,Nat.le_trans hR.size hf.size⟩ hN (okWp_filter hW)
 rw[List.flatten_append]at hb
 rcases List.mem_append.1 hb with hb|hb
 ·exact hH b (pick_flat_sub hb)
 ·rcases h3 b hb with h1|h1
  ·exact hH b (pick_flat_sub h1)
  ·exact .inr (Nat.le_trans hR.size h1)
theorem JR_bytes {S0:Nat→Prop} {C0:List Chunk} {G0:List (Value×D)} {id L0 i:Nat} {ck:Bool} {Wp:List (Nat×List Nat)} {rest:List (Nat×Bool)} (src dt e:TypeId) (s:ByteArray) (dst:Option Tmp)
  (he:chkCv (cvOf n (rgOf f id) E i)=(some (src,dt,.string s,dst),trivCv (cvOf n (rgOf f id) E i),0)) (hs:P.underlying src=some .string) (hd:P.underlying dt=some (.slice e)) (hb:P.underlying e=some (.int .u8))
  (A:∀g c,JR P f R n (rgOf f id) L0 ck rest (Wp.filter (·.1 != i)) k (E.put dst (.val (.slice (some ⟨g,0,none⟩) s.size c))) h r F ⟨S0,C0,G0++[(.slice (some ⟨g,0,none⟩) s.size c,dBytes s)]⟩) :
  JR P f R n (rgOf f id) L0 ck ((i,false)::rest) Wp k E h r F ⟨S0,C0,G0⟩:=JR_bytes0 (Y:=⟨S0,C0,G0⟩) src dt e s dst he hs hd hb fun g c=>by
 have:=A g c
 simpa using this
theorem bytes_get {s:ByteArray} {i:Nat} {b:UInt8} (h:s.data.toList[i]?=some b):s[i]?=some b:=by
 obtain⟨hi,he⟩:=List.getElem?_eq_some_iff.1 h
 have h1:i<s.size:=by simpa using hi
 rw[getElem?_pos s i h1]
 congr 1
theorem JR_idx {id L0 j:Nat} {ck:Bool} {Wp:List (Nat×List Nat)} {rest:List (Nat×Bool)} (t:TypeId) (s:ByteArray) (i:Int) (b:UInt8) (dst:Option Tmp)
  (he:chkIx (ixOf n (rgOf f id) E j)=(some (t,.string s,.int .i64 i,dst),trivIx (ixOf n (rgOf f id) E j),0)) (hu:P.underlying t=some .string) (h0:0≤i) (hb:s.data.toList[i.toNat]?=some b)
  (A:JR P f R n (rgOf f id) L0 ck rest (Wp.filter (·.1 != j)) k (E.put dst (.val (.int .u8 b.toNat))) h r F Y) :
  JR P f R n (rgOf f id) L0 ck ((j,false)::rest) Wp k E h r F Y:=by
 obtain⟨p,he,hp⟩:=chkIx_sound he
 intro B Hd fps a w st hH hR hN hW
 simp only[PW]
 have h1:=bytes_get hb
 refine ixOf_sound he hp st ⟨.int .u8 b.toNat,w,by simp[Instr.index,asIntOf,run_underlying hu,h0,h1],fun a2 hA=>⟨fun hck b hb2 hl=>rfl,?_⟩⟩
 rw[filter_idsW]
 exact A B Hd fps a2 w ⟨hA,st.own,st.fr,st.may,st.gh⟩ hH hR hN (okWp_filter hW)
end
end Go.Sx
end
section
namespace Go.Sx
open Go
def clOf (n:Nat) (ops:Array Oper) (E:Env) (i:Nat):Option (Value×TypeId×Option Tmp):=
 match ops[i]? with
 | none=>none
 | some o=>if dstOk n o.dst then match o.guard with
  | some _=>none
  | none=>match o.op with
   | .call c=>match c.callee with
    | .builtin .clear=>match opsOk E none c.args.toList with
     | some []=>match c.args.toList,c.argTypes.toList with
      | [s],[t]=>some (rho E s,t,o.dst)
      | _,_=>none
     | _=>none
    | _=>none
   | _=>none
  else none
section rows
variable {P:Program} {f:Func} [Pan f] {R:Act→World→Prop} {n:Nat} [Dfr n] {k:List Itm} {E:Env} {h r:List (Nat×Obj)} {F:List (List Nat×World)} {Y:Ghost}
theorem zc_size (z:Array Value) (n:Nat):(Builtin.zeroCells z n).size=n*z.size:=by simp[Builtin.zeroCells]
theorem zc_one {z:Array Value} (hz:∀u∈z.toList,u.oneCell'=true) (m:Nat):∀u∈(Builtin.zeroCells z m).toList,u.oneCell'=true:=by
 intro u hu
 unfold Builtin.zeroCells at hu
 simp only[Array.toList_map,List.mem_map]at hu
 obtain⟨i,hi,rfl⟩:=hu
 have hi2:i<m*z.size:=by simpa using hi
 have hpos:0<z.size:=Nat.pos_of_ne_zero fun h=>by rw[h]at hi2;simp at hi2
 have hlt:=Nat.mod_lt i hpos
 rw[getElem!_pos z _ hlt]
 exact hz _ (by simp)
theorem clOf_sound {ops:Array Oper} {i:Nat} {mv:Value} {t:TypeId} {dst:Option Tmp} (he:clOf n ops E i=some (mv,t,dst))
  {a:Act} {w:World} {fps:List (List Nat)} (s:StF n E h r F Y a w fps) {K:Act→World→Prop}
  (H:∀ty,∃v' w',(Builtin.clear_ #[t] ty #[mv]).run P w=.ok v' w'∧∀a',Ag n (E.put dst (.val v')) a'→K a' w'):wpOp P ops (wpK P f R k) i K a w:=by
 unfold clOf at he
 split at he
 ·cases he
 rename_i o ho
 split at he
 case isFalse=>cases he
 rename_i hd
 split at he
 ·cases he
 rename_i hg
 split at he
 case h_2=>cases he
 rename_i c hc
 split at he
 case h_2=>cases he
 rename_i hcal
 split at he
 case h_2=>cases he
 rename_i hq
 split at he
 case h_2=>cases he
 rename_i xs t' hargs htys
 simp only[Option.some.injEq,Prod.mk.injEq]at he
 obtain⟨rfl,rfl,rfl⟩:=he
 have hev:=opsOk_sound s.ag (fun c w h=>by cases h) _ _ hq trivial
 have e1:a.eval xs=rho E xs:=hev xs (by rw[hargs];simp)
 have hca:c.args = #[xs]:=by rw[←Array.toArray_toList (xs:=c.args),hargs]
 have hct:c.argTypes = #[t']:=by rw[←Array.toArray_toList (xs:=c.argTypes),htys]
 obtain⟨v',w',hrun,hk⟩:=H o.type
 unfold wpOp
 simp only[ho]
 rw[if_pos (by simp[Region.wanted,hg])]
 refine .inl ?_
 unfold Oper.wp execOp
 simp only[hc,resolve,hcal,hca,hct,invoke,builtin,Sem.run_bind,Sem.run_pure,Result.andThen_ok,List.map_toArray,List.map_cons,List.map_nil,e1,hrun]
 exact hk _ (s.ag.put hd (.val v'))
theorem JR_clear {id L0 i:Nat} {ck:Bool} {Wp:List (Nat×List Nat)} {rest:List (Nat×Bool)} (p g o m c t e:Nat) (z:Value) (dst:Option Tmp) {cur:Array Value} {size bytes:Nat}
  (he:clOf n (rgOf f id) E i=some (.slice (some ⟨g,o,none⟩) m c,t,dst)) (hok:(!ck||okW L0 (Wp.lookup i) [p])=true) (ht:P.underlying t=some (.slice e)) (hi:(P.info? e).map (fun i=>(i.zero,i.size,i.bytes))=some (some z,size,bytes)) (hm:0<m)
  (hp:h[p]?=some (g,.cells cur e (0,0))) (hz:z.cells.size=size) (hl0:o+m*size≤cur.size) (h10:∀u∈z.cells.toList,u.oneCell'=true)
  (A0:∀vs:List Value,vs.length=m*size→JR P f R n (rgOf f id) L0 ck rest (Wp.filter (·.1 != i)) k (E.put dst (.val (.tuple #[]))) (h.set p (g,.cells (seg cur o vs) e (0,0))) r F Y) :
  JR P f R n (rgOf f id) L0 ck ((i,false)::rest) Wp k E h r F Y:=by
 have hsz:(Builtin.zeroCells z.cells m).size=m*size:=by rw[zc_size,hz]
 have hl:o+(Builtin.zeroCells z.cells m).size≤cur.size:=by rw[hsz];exact hl0
 have h1:∀u∈(Builtin.zeroCells z.cells m).toList,u.oneCell'=true:=zc_one h10 m
 have A:=A0 (Builtin.zeroCells z.cells m).toList (by simpa using hsz)
 intro BB Hd fps a w s hH hR hN hW
 simp only[PW]
 obtain⟨inf,h1i,h2i,_⟩:=infoParts hi
 have hb:w.heap[g]?=some (.cells cur e (0,0)):=s.own.own _ (List.mem_of_getElem? hp)
 have hzero:(zeroValue e).run P w=.ok z w:=by simp[zeroValue,typeInfo,h1i,h2i]
 have hrun:=run_storeCells_at (P:=P) g o e (Builtin.zeroCells z.cells m).toList 0 cur w hb (by simpa using hl) h1
 rw[setRow_eq hb,Nat.add_zero]at hrun
 refine clOf_sound he s fun ty=>⟨.tuple #[],{ w with heap:=w.heap.setIfInBounds g (.cells (seg cur o (Builtin.zeroCells z.cells m).toList) e (0,0)) },?_,fun a' hA=>JR_setmap hok hp s hH hR hN hW hA A⟩
 obtain⟨m',rfl⟩:∃m',m=m'+1:=⟨m - 1,by omega⟩
 have hrun':(storeCells ⟨g,o,none⟩ (Builtin.zeroCells z.cells (m'+1)).toList).run P w=.ok () { w with heap:=w.heap.setIfInBounds g (.cells (seg cur o (Builtin.zeroCells z.cells (m'+1)).toList) e (0,0)) }:=hrun
 simp[Builtin.clear_,run_underlying ht,hzero,hrun',Result.andThen]
end rows
theorem Row.clr {cur:Array Value} {cap n size:Nat} {xs vs:List Value} (h:Row cur cap n size xs) {i:Nat} (hi:i≤n) (hv:vs.length=(n - i)*size):Row (seg cur (i*size) vs) cap i size (xs.take (i*size)):=by
 have hle:i*size≤n*size:=Nat.mul_le_mul_right size hi
 have h2:n*size≤cap*size:=Nat.mul_le_mul_right size h.le
 have hs:=h.siz
 have hsum:i*size+(n - i)*size=n*size:=by rw[←Nat.add_mul];congr 1;omega
 refine⟨?_,?_,Nat.le_trans hi h.le,h.max,?_⟩
 ·rw[List.length_take,h.len]
  omega
 ·rw[seg_len (by rw[hv];omega)]
  exact hs
 ·have e1:(seg cur (i*size) vs).toList.take (i*size)=cur.toList.take (i*size):=by
   simp only[seg]
   rw[List.append_assoc,List.take_append_of_le_length (by simp;omega),List.take_take,Nat.min_self]
  rw[e1,←h.take,List.take_take]
  congr 1
  omega
section steps
variable {h r:List (Nat×Obj)} {F:List (List Nat×World)}
theorem RowsAt.cut {w:World} {S:Nat→Prop} {xs:List Value} {k:Nat} {rows:List (List D)} (h:RowsAt w S xs k rows) (i:Nat):RowsAt w S (xs.take (i*k)) k (rows.take i):=by
 refine⟨fun row hr=>h.len row (List.mem_of_mem_take hr),fun p j row d hp hj=>?_⟩
 rw[List.getElem?_take]at hp
 split at hp
 ·rename_i hpi
  obtain⟨u,h1,h2⟩:=h.rep p j row d hp hj
  have hjk:j<k:=by rw[←h.len row (List.mem_of_getElem? hp)];exact(List.getElem?_eq_some_iff.1 hj).1
  exact⟨u,by rw[List.getElem?_take,if_pos (idx_lt hpi hjk)];exact h1,h2⟩
 ·cases hp
theorem stp_cutrows {S0:Nat→Prop} {C0:List Chunk} {G0:List (Value×D)} (q i:Nat) {xs:List Value} {k:Nat} {rows:List (List D)} (hq:C0[q]?=some (cRows xs k rows)) :
  Stp h r F ⟨S0,C0,G0⟩ (fun _:Unit=>True) fun _=>⟨S0,C0.set q (cRows (xs.take (i*k)) k (rows.take i)),G0⟩:=by
 intro w fps hO H
 obtain⟨fp,hfp,hnil,hP⟩:=H.chs.at hq
 have hc:(cRows (xs.take (i*k)) k (rows.take i)).P w (Sd ⟨S0,C0,G0⟩ h fps) fp:=⟨hnil,hP.cut i⟩
 have hs:=H.chs.set hc (i:=q)
 have e:fps.set q fp=fps:=set_same hfp
 rw[e]at hs
 exact⟨(),fps,trivial,fun _ hb=>hb,H.less (fun _ hb=>hb) H.nodup hs H.g⟩
theorem RowsAt.put {w:World} {S:Nat→Prop} {xs vs:List Value} {k:Nat} {rows:List (List D)} (h:RowsAt w S xs k rows) (hl:xs.length=rows.length*k) {i:Nat} (hi:i<rows.length) {row:List D} (hv:vs.length=k) (hr:row.length=k) (hrep:∀(j:Nat) d,row[j]?=some d→∃u,vs[j]?=some u∧Rep w S u d) :
  RowsAt w S (xs.take (i*k)++vs++xs.drop (i*k+k)) k (rows.set i row):=by
 have h1:i*k+k≤rows.length*k:=by
  have:=Nat.mul_le_mul_right k (Nat.succ_le_of_lt hi)
  rwa[Nat.succ_mul]at this
 refine⟨fun row' hr'=>?_,fun p j row' d hp hj=>?_⟩
 ·rcases List.mem_or_eq_of_mem_set hr' with h2|rfl
  ·exact h.len row' h2
  ·exact hr
 ·by_cases hpi:i=p
  ·subst hpi
   rw[List.getElem?_set_self hi]at hp
   cases hp
   obtain⟨u,hu,hru⟩:=hrep j d hj
   have hjk:j<k:=by rw[←hr];exact(List.getElem?_eq_some_iff.1 hj).1
   refine⟨u,?_,hru⟩
   rw[List.getElem?_append_left (by simp;omega),List.getElem?_append_right (by simp;omega)]
   simp only[List.length_take,hl]
   rw[show i*k+j - min (i*k) (rows.length*k)=j by omega]
   exact hu
  ·rw[List.getElem?_set_ne hpi]at hp
   obtain⟨u,h3,h4⟩:=h.rep p j row' d hp hj
   have hjk:j<k:=by rw[←h.len row' (List.mem_of_getElem? hp)];exact(List.getElem?_eq_some_iff.1 hj).1
   refine⟨u,?_,h4⟩
   rcases Nat.lt_or_gt_of_ne hpi with hlt|hgt
   ·have h5:=Nat.mul_le_mul_right k (Nat.succ_le_of_lt hlt)
    rw[Nat.succ_mul]at h5
    rw[List.getElem?_append_right (by simp;omega),List.getElem?_drop]
    simp only[List.length_append,List.length_take,hl,hv]
    rw[show i*k+k+(p*k+j - (min (i*k) (rows.length*k)+k))=p*k+j by omega]
    exact h3
   ·have h5:=Nat.mul_le_mul_right k (Nat.succ_le_of_lt hgt)
    rw[Nat.succ_mul]at h5
    rw[List.getElem?_append_left (by simp;omega),List.getElem?_append_left (by simp;omega),List.getElem?_take,if_pos (by omega)]
    exact h3
theorem stp_putrow {S0:Nat→Prop} {C0:List Chunk} {G0:List (Value×D)} (q i:Nat) {xs vs:List Value} {k:Nat} {rows:List (List D)} {row:List D} (hq:C0[q]?=some (cRows xs k rows)) (hl:xs.length=rows.length*k) (hi:i<rows.length) (hk:row.length=k) (hR:RowG G0 vs row) :
  Stp h r F ⟨S0,C0,G0⟩ (fun _:Unit=>True) fun _=>⟨S0,C0.set q (cRows (xs.take (i*k)++vs++xs.drop (i*k+k)) k (rows.set i row)),G0⟩:=by
 intro w fps hO H
 obtain⟨fp,hfp,hnil,hP⟩:=H.chs.at hq
 have hc:(cRows (xs.take (i*k)++vs++xs.drop (i*k+k)) k (rows.set i row)).P w (Sd ⟨S0,C0,G0⟩ h fps) fp:=⟨hnil,hP.put hl hi (by rw[hR.len,hk]) hk fun j d hj=>hR.at H.g j d hj⟩
 have hs:=H.chs.set hc (i:=q)
 have e:fps.set q fp=fps:=set_same hfp
 rw[e]at hs
 exact⟨(),fps,trivial,fun _ hb=>hb,H.less (fun _ hb=>hb) H.nodup hs H.g⟩
end steps
end Go.Sx
end
section
namespace Go.Sx
open Go Go.RowKit
abbrev dI (n:Int):D:=.v (.int .i64 n)
abbrev eI (t:Int):List D:=[dI t]
abbrev dInts (l:List Int):D:=.sl 1 (l.map eI)
theorem rep_ints_len {w:World} {S:Nat→Prop} {a:Option Addr} {n c:Nat} {xs:List Int} (h:Rep w S (.slice a n c) (dInts xs)):n=xs.length:=by
 have:=h.slen
 simpa using this
abbrev eS (s:ByteArray):List D:=[.v (.string s)]
abbrev dStrs (l:List ByteArray):D:=.sl 1 (l.map eS)
def errV (T:Nat) (er:Nat→Addr) (k:Nat):Value:=.iface T (.pointer (some (er k)))
def ErrIs (T:Nat) (er:Nat→Addr) (k:Nat) (v:Value):Prop:=(k=0∧v=.nilIface)∨(k≠0∧v=.iface T (.pointer (some (er k))))
abbrev dE (T:Nat) (er:Nat→Addr) (g k:Nat):Value×D:=(.pointer (some ⟨g,0,none⟩),.ptr [.v (.iface T (.pointer (some (er k))))])
theorem AllG.pick {w:World} {S:Nat→Prop} {G G':List (Value×D)} (h:AllG w S G) (ps:List Nat) (hp:pick G ps=G'):AllG w S G':=fun x hx=>h x (pick_mem hp x hx)
theorem AllG.app {w:World} {S:Nat→Prop} {G G':List (Value×D)} (h:AllG w S G) (h':AllG w S G'):AllG w S (G++G'):=fun x hx=>by
 rcases List.mem_append.1 hx with hx|hx
 ·exact h x hx
 ·exact h' x hx
structure AccI where
 i:Int
 a:Option Addr
 k:Nat
 c:Nat
theorem take_snoc {α:Type} {l:List α} {i:Int} {x:α} (hi:0≤i) (hx:l[i.toNat]?=some x):l.take i.toNat++[x]=l.take (i+1).toNat:=by
 have e:(i+1).toNat=i.toNat+1:=by omega
 rw[e,List.take_add_one,hx]
 rfl
theorem ret_below {w w':World} {S:Nat→Prop} {e:Ending} {v:Value} (he:e=.returned v) (h:Below w.heap.size w w') (hd:w.drawn≤w'.drawn):Ret [] w S w' e v [] []:=
 ⟨he,⟨h.os,h.tape,h.output,h.size,fun b hb _=>h.block b hb,hd⟩,[],trivial,by simp,by simp,by simp⟩
theorem ret_same {w w':World} {S:Nat→Prop} {e:Ending} {v:Value} (he:e=.returned v) (h:w'=w):Ret [] w S w' e v [] []:=ret_below he (h ▸ Below.refl _ _) (h ▸ Nat.le_refl _)
end Go.Sx
end
section
namespace Go.Sx
open Go
structure DotT where
 place:Int
 time:Int
 no:Int
structure OpT where
 no:Int
 key:ByteArray
 kind:Int
 text:ByteArray
 n:Int
 remove:Bool
 dots:List DotT
structure ComT where
 when:List Int
 place:Int
 ops:List OpT
structure MsgT where
 fm:Int
 to:Int
 shard:Int
 seq:Int
 time:Int
 beat:Bool
 c:ComT
abbrev eDot (d:DotT):List D:=[dI d.place,dI d.time,dI d.no]
abbrev eOp (o:OpT):List D:=[dI o.no,.v (.string o.key),dI o.kind,.v (.string o.text),dI o.n,.v (.bool o.remove),.sl 3 (o.dots.map eDot)]
abbrev eCom (c:ComT):List D:=[.sl 1 (c.when.map eI),dI c.place,.sl 7 (c.ops.map eOp)]
abbrev eMsg (m:MsgT):List D:=[dI m.fm,dI m.to,dI m.shard,dI m.seq,dI m.time,.v (.bool m.beat),.sl 1 (m.c.when.map eI),dI m.c.place,.sl 7 (m.c.ops.map eOp)]
instance:DecidableEq DotT:=fun a b=>decidable_of_iff (a.place=b.place∧a.time=b.time∧a.no=b.no) ⟨fun⟨h1,h2,h3⟩=>by cases a;cases b;simp_all,fun h=>by subst h;exact⟨rfl,rfl,rfl⟩⟩
end Go.Sx
end
