/-
  Texts behind the statement, part 5.
-/
import Derived.Test.YtidekfgkpindbaaGreatDoorQC4
set_option linter.unusedSimpArgs false
set_option linter.unusedVariables false
set_option maxRecDepth 100000
set_option maxHeartbeats 4000000
namespace Go.Proofs.YtidekfgkpindbaaGreatDoor
open Go Go.RowKit
namespace SX
section
variable {C:Cx}{R:Ending→World→Prop}{w0:fB}{ps:List (World→Prop)}{T T0:List TF}{ρ:List Value}{s:S}{a:Act}{W:World}{α:Nat→AV}
theorem AX(hI:aF w0 ps T ρ s a W α){fn:Func}{v:V}(h:yH C.P s fn=some v):(results fn a.tmps).run C.P W=.ok (v.den ρ α) W:=by
 have key:∀ {l:List ResultVar} {vs:List V},l.mapM (wv C.P s)=some vs→(l.mapM (En a.tmps)).run C.P W=.ok (ah ρ α vs) W:=by
  intro l
  induction l with
  | nil=>intro vs h;simp at h;subst h;simp [ah]
  | cons r l ih =>
   intro vs h
   simp only [List.mapM_cons,Option.bind_eq_bind,Option.bind_eq_some_iff]at h
   obtain⟨v,hv,vs',hvs,h⟩:=h
   simp at h
   subst h
   have h1:=JT hI hv
   simp only [List.mapM_cons,Sem.run_bind,h1,Result.andThen_ok,ih hvs,Sem.run_pure,ah]
 rw [AY,Array.mapM_eq_mapM_toList]
 unfold yH at h
 split at h
 ·rename_i u hu
  obtain rfl:u=v:=af h
  have:=key hu
  simp only [map_eq_pure_bind,bind_assoc,pure_bind,Sem.run_bind,this,Result.andThen_ok,Sem.run_pure,ah]
  simp
 ·rename_i vs hne hu
  obtain rfl:V.t vs=v:=af h
  have:=key hu
  simp only [map_eq_pure_bind,bind_assoc,pure_bind,Sem.run_bind,this,Result.andThen_ok,Sem.run_pure,V.den]
  have hl:¬ (ah ρ α vs).toArray.size=1:=by
   simp [aq]
   intro h1
   match vs,h1,hne with
   | [v],_,hne=>exact hne v rfl
  rw [dif_neg hl]
 cases h
theorem tD(hp:List (Option ak))(m:Nat)(vs:List V):cK (hp++List.replicate m none) vs=cK hp vs:=by
 unfold cK
 refine List.map_congr_left fun n _=>?_
 congr 1
 by_cases h:n<hp.length
 ·rw [List.getElem?_append_left h]
 rw [List.getElem?_append_right ab,List.getElem?_eq_none (l:=hp) ab,List.getElem?_replicate]
 split<;>rfl
theorem I1(hp:List (Option ak))(m n:Nat):((hp++List.replicate m none)[n]?).join=(hp[n]?).join:=by
 by_cases h:n<hp.length
 ·rw [List.getElem?_append_left h]
 rw [List.getElem?_append_right ab,List.getElem?_eq_none (l:=hp) ab,List.getElem?_replicate]
 split<;>rfl
theorem uh(hp:List (Option ak))(m:Nat):∀ vs:List V,pk (hp++List.replicate m none) vs=pk hp vs
 | []=>rfl
 | v::l=>by
  unfold pk
  rw [uh hp m l]
  congr 1
  cases v<;>try rfl
  simp only [I1]
theorem y7(s:S)(m:Nat)(op:Op)(vs:List V):(s.room m).ja op vs=s.ja op vs:=by
 unfold S.ja
 split
 ·exact tD s.ln m vs
 show cK (s.hp++List.replicate m none) (fS (s.hp++List.replicate m none) op vs)=cK s.hp (fS s.hp op vs)
 have:fS (s.hp++List.replicate m none) op vs=fS s.hp op vs:=by
  unfold fS;rw [uh]
 rw [this]
 exact tD s.hp m _
theorem Lu{K:Act→World→Prop}{Q:Exit→Act→World→Prop}{o:Oper}{v:V}{wr:Option (Nat×ak)}{vs:List V}(hvs:o.op.operands.toList.mapM s.ev=some vs)(h:dQ C s.sh s.hp.length o.op vs (s.ja o.op vs)=.ef v none wr)(hI:Inv w0 ps T ρ s a W)
 (hw:aW s s.hp.length v none wr=true) (hK:∀ a' W',Inv w0 ps T ρ (s.dl s.hp.length o.dst v none wr) a' W'→K a' W'):o.wp C.P a W K Q:=by
 obtain⟨α,hI⟩:=hI
 exact F2 (s:=s) (nm:=s.hp.length) (vs:=vs) (List.prefix_refl _) hvs h hI (.inl rfl) hw hK
theorem Ls{K:Act→World→Prop}{Q:Exit→Act→World→Prop}{o:Oper}{v:V}{b:ak}{wr:Option (Nat×ak)}{vs:List V}(hvs:o.op.operands.toList.mapM s.ev=some vs)(h:dQ C s.sh s.hp.length o.op vs (s.ja o.op vs)=.ef v (some b) wr)(hI:Inv w0 ps T ρ s a W)
 (hw:(aW (s.room 1) s.hp.length v (some b) wr && dg (s.room 1) s.hp.length)=true) (hK:∀ a' W',Inv w0 ps T ρ ((s.room 1).dl s.hp.length o.dst v (some b) wr) a' W'→K a' W'):o.wp C.P a W K Q:=by
 obtain⟨α,hI⟩:=hI
 simp only [Bool.and_eq_true]at hw
 refine F2 (s:=s.room 1) (nm:=s.hp.length) (vs:=vs) (List.prefix_refl _) hvs ?_ (hI.room 1) (.inr (nv hw.2)) hw.1 hK
 rw [y7]
 exact h
theorem Lp(hC:C.Ok)(hps:me C w0 ps){K:Act→World→Prop}{Q:Exit→Act→World→Prop}{o:Oper}{q:cZ}{args:List V}{sh:Sh}{mk:Option V}{wr:Option (Nat×ak)}{v:Value}{vs:List V}(hvs:o.op.operands.toList.mapM s.ev=some vs)(h:dQ C s.sh s.hp.length o.op vs (s.ja o.op vs)=.df q args sh mk none wr)(hI:aF w0 ps T ρ s a W α)
 (hrel:q.rel C ρ α args v) (hfit:sh.fit v=true) (hw:(dw s.ln s.sh.length args && q.wf s.ln s.sh.length && aW (s.ext sh) s.hp.length (bx s.sh.length sh mk) none wr)=true) (hK:∀ a' W',Inv w0 ps T (ρ++[v]) ((s.ext sh).dl s.hp.length o.dst (bx s.sh.length sh mk) none wr) a' W'→K a' W'):o.wp C.P a W K Q:=by
 simp only [Bool.and_eq_true]at hw
 obtain⟨⟨h1,h2⟩,h3⟩:=hw
 rw [hI.good.len]at h1 h2
 exact Kr hC hps hvs h hI (rN ⟨[v],rfl⟩ h1 h2 hrel) hfit (.inl rfl) h3 hK
theorem Lo(hC:C.Ok)(hps:me C w0 ps){K:Act→World→Prop}{Q:Exit→Act→World→Prop}{o:Oper}{q:cZ}{args:List V}{sh:Sh}{mk:Option V}{b:ak}{wr:Option (Nat×ak)}{v:Value}{vs:List V}(hvs:o.op.operands.toList.mapM s.ev=some vs)(h:dQ C s.sh s.hp.length o.op vs (s.ja o.op vs)=.df q args sh mk (some b) wr)(hI:aF w0 ps T ρ s a W α)
 (hrel:q.rel C ρ α args v) (hfit:sh.fit v=true) (hw:(dw s.ln s.sh.length args && q.wf s.ln s.sh.length && aW ((s.room 1).ext sh) s.hp.length (bx s.sh.length sh mk) (some b) wr && dg (s.room 1) s.hp.length)=true) (hK:∀ a' W',Inv w0 ps T (ρ++[v]) (((s.room 1).ext sh).dl s.hp.length o.dst (bx s.sh.length sh mk) (some b) wr) a' W'→K a' W'):o.wp C.P a W K Q:=by
 simp only [Bool.and_eq_true]at hw
 obtain⟨⟨⟨h1,h2⟩,h3⟩,h4⟩:=hw
 rw [hI.good.len]at h1 h2
 refine Kr (s:=s.room 1) hC hps hvs ?_ (hI.room 1) (rN ⟨[v],rfl⟩ h1 h2 hrel) hfit (.inr (nv h4)) h3 hK
 rw [y7]
 exact h
theorem Ii(hI:Inv w0 ps T ρ s a W)(d:Option Tmp):Inv w0 ps T ρ (s.put d (.k undef)) (a.put d undef) W :=
 let ⟨α,h⟩:=hI;⟨α,h.fN d rfl rfl⟩
theorem mC(hI:Inv w0 ps T ρ s a W){i:Nat}{p:List Nat}{v:Value}(hi:i<s.sh.length)(hv:p.foldl comp (ρ.getD i undef)=v):Inv w0 ps T ρ (s.dec i p v) a W :=
 let ⟨α,h⟩:=hI;⟨α,h.dec (by rw [← h.good.len];exact hi) hv⟩
theorem aF.take(hI:aF w0 ps T ρ s a W α):∃ W',pu a.defers W=some W'∧aF w0 ps T ρ s { a with defers:=[] } W' α:=by
 obtain⟨W',h1,h2⟩:=CE (os:=eV s.lps T) a.defers W hI.defers.1 hI.st
 exact⟨W',h1,⟨nofun,hI.defers.2⟩,hI.good,hI.wf,hI.fm,hI.lO,h2,hI.rows,hI.lens⟩
theorem dr{c:TF}{l:Nat}{r:Loop}(h:c.lp=some (l,r))(q:Nat×LS)(lps:List (Nat×LS))(T:List TF):eV (q::lps) (c::T)=⟨l,.loop { r with state:=q.2.st,pending:=q.2.pe }⟩::⟨r.defers,.deferred (some [])⟩::(gd c.ds++eV lps T):=by
 conv=>lhs;unfold eV
 rw [h]
theorem gD{c:TF}(h:c.lp=none)(lps:List (Nat×LS))(T:List TF):eV lps (c::T)=gd c.ds++eV lps T:=by
 conv=>lhs;unfold eV
 rw [h]
theorem fC{ok:Nat→Bool}{c:TF}{l:Nat}{r:Loop}(h:c.lp=some (l,r)){q:Nat×LS}{lps:List (Nat×LS)}{T:List TF}:oi α ok (q::lps) (c::T)↔Marks c.ds∧(ok q.1=true∧(α q.1).b=l∧r.state=.ready∧r.pending=none∧r.tmps=c.t)∧oi α ok lps T:=by
 conv=>lhs;unfold oi
 rw [h]
theorem ky{ok:Nat→Bool}{c:TF}(h:c.lp=none){lps:List (Nat×LS)}{T:List TF}:oi α ok lps (c::T)↔Marks c.ds∧oi α ok lps T:=by
 conv=>lhs;unfold oi
 rw [h]
theorem oL{r:Loop}(h1:r.state=.ready)(h2:r.pending=none):({ r with state:=.ready,pending:=none }:Loop)=r:=by cases r;simp_all
theorem rM{r:Loop}(h2:r.pending=none):({ r with state:=.busy,pending:=none }:Loop)={ r with state:=.busy }:=by cases r;simp_all
theorem oD{T:List TF}(h:(s8 T).isSome=true):∃ c T' l r,T=c::T'∧c.lp=some (l,r):=by
 cases T with
 | nil=>simp [s8]at h
 | cons c T' =>
  simp only [s8]at h
  cases hc:c.lp with
  | none=>rw [hc]at h;cases h
  | some e=>exact⟨c,T',e.1,e.2,rfl,by rw [hc]⟩
theorem uy(args:List V):∀ (l:List Tmp)(as':List V)(fr:List (Option V))(t:Array Value),Fm ρ α fr t→Fm ρ α ((l.zip as').foldl (fun f e=>f.set e.1 (some e.2)) fr) ((l.zip (ah ρ α as')).foldl (fun tmps e=>tmps.setIfInBounds e.1 e.2) t)
 | [],_,fr,t,h=>af h
 | _::_,[],fr,t,h=>by simpa [ah]using h
 | x::l,v::as',fr,t,h=>by
  simp only [ah,List.zip_cons_cons,List.foldl_cons]
  exact uy args l as' _ _ (h.set x v)
theorem uz{ln:List (Option ak)}{m:Nat}:∀ (l:List Tmp)(as':List V)(fr:List (Option V)),IX ln m fr→dw ln m as'=true→IX ln m ((l.zip as').foldl (fun f e=>f.set e.1 (some e.2)) fr)
 | [],_,fr,h,_=>af h
 | _::_,[],fr,h,_=>af h
 | x::l,v::as',fr,h,hw=>by
  simp only [dw,Bool.and_eq_true]at hw
  simp only [List.zip_cons_cons,List.foldl_cons]
  refine uz l as' _ (fun u hu=>?_) hw.2
  rcases mem_set hu with hu|hu
  ·obtain rfl:u=v:=af hu
   exact hw.1
  exact h u hu
theorem Et(r:Loop)(as':List V):rR r (ah ρ α as').toArray=(r.params.toList.zip (ah ρ α as')).foldl (fun tmps e=>tmps.setIfInBounds e.1 e.2) r.tmps:=by
 unfold rR
 rw [← Array.foldl_toList,Array.toList_zip]
theorem DT{l:List (Option ak)}{k:Nat}(h:(l.drop k).all Option.isNone=true){n:Nat}{b:ak}(hn:l[n]?=some (some b)):(l.take k)[n]?=some (some b):=by
 rcases Nat.lt_or_ge n k with hk|hk
 ·rw [List.getElem?_take,if_pos hk];exact hn
 exfalso
 have h1:(l.drop k)[n-k]?=some (some b):=by rw [List.getElem?_drop,show k+(n-k)=n by omega];exact hn
 have:=List.all_eq_true.1 h _ (List.mem_of_getElem? h1)
 cases this
theorem AD{l:List (Option ak)}{k:Nat}(h:(l.drop k).all Option.isNone=true):l=l.take k++List.replicate (l.drop k).length none:=by
 have:l.drop k=List.replicate (l.drop k).length none:=List.eq_replicate_iff.2 ⟨rfl,fun x hx=>by
  have:=List.all_eq_true.1 h x hx
  cases x
  ·rfl
  cases this⟩
 rw [← this,List.take_append_drop]
theorem aF.trim(hI:aF w0 ps T ρ s a W α)(b:Bool)(base:Nat):aF w0 ps T ρ (s.trim b base) a W α:=by
 unfold S.trim
 split
 ·exact hI
 generalize max base (max (jz 0 0 s.hp) (jz 0 0 s.ln))=k
 dsimp only
 split
 ·rename_i hc
  simp only [Bool.and_eq_true]at hc
  obtain⟨h1,h2⟩:=hc
  have hlv:∀ n,lv s.ln n=true→lv (s.ln.take k) n=true:=fun n hn=>by
   obtain⟨b,hb⟩:=cX.1 hn
   exact cX.2 ⟨b,DT h2 hb⟩
  have hback:∀ {l:List (Option ak)} {n:Nat} {b:ak},(l.take k)[n]?=some (some b)→l[n]?=some (some b):=fun {l n b} h=>by
   rw [List.getElem?_take]at h
   split at h
   ·exact h
   cases h
  refine⟨⟨hI.defers.1,hI.defers.2.to (fun _ _=>rfl) hlv⟩,⟨hI.good.len,hI.good.fit,hI.good.kn⟩,⟨hI.wf.fr.mono hlv (Nat.le_refl _),fun f hf=>(hI.wf.stk f hf).mono hlv (Nat.le_refl _),fun c hc=>?_,fun c hc=>?_⟩,hI.fm,hI.lO,?_,fun n b hb=>?_,fun n b hb=>hI.lens n b (hback hb)⟩
  ·exact bS hlv (Nat.le_refl _) c.c (hI.wf.hp c (List.mem_of_mem_take hc))
  ·exact bS hlv (Nat.le_refl _) c.c (hI.wf.ln c (List.mem_of_mem_take hc))
  ·have e1:=AD h1
   have hst:=hI.st
   have e2:aU ρ α 0 s.hp=aU ρ α 0 (s.hp.take k):=by
    conv=>lhs;rw [e1,fW]
   rw [e2]at hst
   exact jF hst (gq (iW fun n b hb=>.inr ⟨b,hback hb,rfl⟩))
  obtain⟨h3,h4⟩:=hI.rows n b (hback hb)
  exact⟨hlv n h3,h4⟩
 exact hI
theorem ig{P:Program}{R:Ending→World→Prop}:∀ {k:List It}{T:List TF}{J:List (Act→World→Prop)},rk k=true→∀ c a W,¬ jk P R k T J (.panic c) a W
 | [],_,_,_,_,_,_=>fun h=>h
 | .top _::_,_,_,_,_,_,_=>fun h=>h
 | .code _::k,_,_,h,c,a,W=>fun hh=>ig (k:=k) h c a W hh
 | .inBlock _::k,_,_,h,c,a,W=>fun hh=>ig (k:=k) h c a W hh
 | .rounds _ _::k,_,_,h,c,a,W=>fun hh=>ig (k:=k) h c a W hh
 | .ops _ _::k,_,_,h,c,a,W=>fun hh=>ig (k:=k) h c a W hh
 | .back _ _ _ _ _::_,[],_,_,_,_,_=>fun h=>h
 | .back _ _ _ _ _::_,_::_,_,_,_,_,_=>fun h=>h
 | .again _ _ _ _::k,_,[],_,_,_,_=>fun h=>h
 | .again _ _ _ _::k,_,_::_,h,c,a,W=>fun hh=>ig (k:=k) h c a W hh
 | .beginR::_,_,_,_,_,_,_=>fun h=>h
 | .dT _ _ _ _::_,[],_,_,_,_,_=>fun h=>h
 | .dT _ _ _ _::_,_::_,_,_,_,_,_=>fun⟨_,_,_,h⟩=>h.2
 | .endl _ _ _ _ _::_,[],_,_,_,_,_=>fun h=>h
 | .endl _ _ _ _ _::_,_::_,_,_,_,_,_=>fun h=>h
 | .jump _::_,_,_,h,_,_,_=>nomatch h
theorem p7{R:Ending→World→Prop}{T0:List TF}{L:List (Cx→List Value→Prop)}{i:Nat}{b:Bool}{t:Tree}(h:VC C w0 ps T0 R L ρ (xK C s i b t)):VC C w0 ps T0 R L ρ t:=by
 unfold xK at h
 split at h
 ·simp [VC]at h
 exact h
theorem Ce{la:Bool}{s:S}{n n0 sz:Nat}{c:List V}(h:JA la s n=some (n0,sz,c)):∃ b,s.hp[n0]?=some (some b)∧(b.k=.row sz∨(la=true∧b.k=.ext sz))∧b.c=c:=by
 unfold JA at h
 split at h
 ·rename_i b hb
  split at h
  ·rename_i sz' hk'
   cases h
   exact⟨b,join_some hb,.inl hk',rfl⟩
  ·rename_i sz' hk'
   split at h
   ·rename_i hla
    cases h
    exact⟨b,join_some hb,.inr ⟨hla,hk'⟩,rfl⟩
   cases h
  cases h
 cases h
theorem JC{la:Bool}{s:S}{k:Nat}{op:Op}{vs:List V}{n0 sz:Nat}{c:List V}(h:JB la s k op vs=some (n0,sz,c)):k=12∧∃ b,s.hp[n0]?=some (some b)∧(b.k=.row sz∨(la=true∧b.k=.ext sz))∧b.c=c:=by
 unfold JB at h
 split at h
 ·rename_i hk
  split at h
  ·exact⟨hk,Ce h⟩
  ·split at h
   ·exact⟨hk,Ce h⟩
   cases h
  cases h
 cases h
theorem Jz{s:S}{an:kx}{k:Nat}{n0 sz:Nat}{c:List V}(h:LC s an k=some (n0,sz,c)):k=12∧∃ b,s.hp[n0]?=some (some b)∧b.k=.row sz∧b.c=c:=by
 unfold LC at h
 split at h
 ·rename_i hk
  have h:=List.mem_of_getElem? h
  obtain⟨e,_,he⟩:=List.mem_filterMap.1 h
  split at he
  ·split at he
   ·split at he
    ·rename_i b hb
     split at he
     ·rename_i sz' hk'
      cases he
      exact⟨hk,b,join_some hb,hk',rfl⟩
     cases he
    cases he
   cases he
  cases he
 cases h
theorem KG{C:Cx}{ρ:List Value}{α:Nat→AV}{sz:Nat}{args:List V}{v:Value}(h:(cZ.lastq sz).rel C ρ α args v):False:=by
 unfold cZ.rel at h
 split at h<;>first|exact h|(rename_i hq;cases hq)|skip
def PZ(C:Cx)(G:kp)(n lv:Nat)(s:S)(all:Array Oper)(o:Oper)(rest:List Oper)(k:List It):Tree :=
 match o.op.operands.toList.mapM s.ev with
  | none=>.bad 16 [o.op]
  | some vs=>match MM C.P G.eO s o.op vs with
   | some (n0,b,_)=>if aW ((s.lay n0 bH).room 1) s.hp.length (.row s.hp.length) (some ⟨[.a b.c],0,.ext 1⟩) none && dg ((s.lay n0 bH).room 1) s.hp.length then run C G n lv (((s.lay n0 bH).room 1).dl s.hp.length o.dst (.row s.hp.length) (some ⟨[.a b.c],0,.ext 1⟩) none) (.ops all rest::k)else .bad 82 [o.op]
   | none=>match ri C (s.ja o.op vs) o.op vs with
   | some (g,rw,as',sh)=>if aW (s.ext sh) s.hp.length (bx s.sh.length sh none) none none then .df (.callq g rw) as' sh (run C G n lv ((s.ext sh).dl s.hp.length o.dst (bx s.sh.length sh none) none none) (.ops all rest::k))else .bad 80 [o.op]
   | none=>match dQ C s.sh s.hp.length o.op vs (s.ja o.op vs)with
   | .ef v none wr=>if aW s s.hp.length v none wr then run C G n lv (s.dl s.hp.length o.dst v none wr) (.ops all rest::k)else .bad 17 [o.op]
   | .ef v (some b) wr=>if aW (s.room 1) s.hp.length v (some b) wr && dg (s.room 1) s.hp.length then run C G n lv ((s.room 1).dl s.hp.length o.dst v (some b) wr) (.ops all rest::k)else .bad 18 [o.op]
   | .df q args sh mk none wr=>if dw s.ln s.sh.length args && q.wf s.ln s.sh.length && aW (s.ext sh) s.hp.length (bx s.sh.length sh mk) none wr then .df q args sh (run C G n lv ((s.ext sh).dl s.hp.length o.dst (bx s.sh.length sh mk) none wr) (.ops all rest::k))else .bad 20 [o.op]
   | .df q args sh mk (some b) wr=>if dw s.ln s.sh.length args && q.wf s.ln s.sh.length && aW ((s.room 1).ext sh) s.hp.length (bx s.sh.length sh mk) (some b) wr && dg (s.room 1) s.hp.length then .df q args sh (run C G n lv (((s.room 1).ext sh).dl s.hp.length o.dst (bx s.sh.length sh mk) (some b) wr) (.ops all rest::k))else .bad 19 [o.op]
   | .br i p=>if i<s.sh.length then .br i p (run C G n lv (s.dec i p (.bool true)) (.ops all (o::rest)::k)) (run C G n lv (s.dec i p (.bool false)) (.ops all (o::rest)::k))else .bad 21 [o.op]
   | .sp i p m=>if i<s.sh.length then .sp i p ((List.range m).map fun(j:Nat)=>run C G n lv (s.dec i p (.int .i64 (j:Int))) (.ops all (o::rest)::k))else .bad 22 [o.op]
   | .no=>match DD C s G.eO o.op vs with
    | some n0=>run C G n lv (s.freeze n0) (.ops all (o::rest)::k)
    | none=>match JB C.la s G.eO o.op vs with
    | some (n0,sz,c)=>.df (.lastq sz) [.cat c] .one (run C G n lv (s.last n0) (.ops all (o::rest)::k))
    | none=>match o.op,vs with
    | .call c,.f (.func g) fs cap::args=>match c.callee,C.P.funcs[g]?,enters C.P g && G.inl g with
     | .value _,some fn,true=>match fn.body with
      | some body=>if(fs++(args++cap)).length≤fn.ntmps && dw s.ln s.sh.length (fs++(args++cap))then
       run C G n lv { s with fr:=(fs++(args++cap)).map some++List.replicate (fn.ntmps-(fs++(args++cap)).length) (some (.k undef)),stk:=s.fr::s.stk,cur:=g } (.code body::.back fn s.cur o.dst all rest::k)else .bad 23 [o.op]
      | none=>.bad 24 [o.op]
     | _,_,_=>.bad 25 [o.op]
    | .call c,.y m::args=>match c.callee,s.lps,s.stk,dU k with
     | .value _,(m',.ready)::_,fr::_,some (cur,ps,assign,body)=>if m=m'∧args.length=ps.size∧dw s.ln s.sh.length args=true then
      run C G n lv { s with fr:=A7 fr ps args,stk:=s.fr::s.stk,cur:=cur } (.code assign::.beginR::.code body::.dT s.cur o.dst all rest::k)else .bad 61 [o.op]
     | _,_,_,_=>.bad 62 [o.op]
    | _,_=>.bad 26 [o.op]
theorem Jr{k:Nat}{op:Op}{vs:List V}{n0:Nat}(h:DD C s k op vs=some n0):k=12∧∃ b,s.hp[n0]?=some (some b)∧b.k=.cells:=by
 unfold DD at h
 split at h
 ·rename_i hk
  refine⟨hk,?_⟩
  split at h
  ·split at h
   ·have hm:=List.mem_of_getElem? h
    obtain⟨j,_,hj⟩:=List.mem_filterMap.1 hm
    split at hj
    ·split at hj
     ·rename_i b hb
      split at hj
      ·rename_i hbk
       cases hj
       exact⟨b,join_some hb,hbk⟩
      cases hj
     cases hj
    cases hj
   cases h
  cases h
 cases h
theorem aF.freeze(hI:aF w0 ps T ρ s a W α)(hms:w0.ms=[]){n0:Nat}{b:ak}(hn:s.hp[n0]?=some (some b))(hk:b.k=.cells):aF w0 ps T ρ (s.freeze n0) a W α:=by
 have hfz:s.freeze n0=s.lay n0 ⟨b.c,b.t,.froz⟩:=by unfold S.freeze;rw [hn];rfl
 rw [hfz]
 obtain⟨l1,l2,h1,h2⟩:=cy (ρ:=ρ) (α:=α) (k:=0) hn
 have hch:(some b).bind (fun b=>b.ch ρ α (0+n0))=some ⟨(α n0).b,(ah ρ α b.c).toArray,b.t⟩:=by simp [ak.ch,hk]
 have hst:=hI.st
 rw [h1,hch]at hst
 have hst:St w0 (l1++((⟨(α n0).b,(ah ρ α b.c).toArray,b.t⟩:Ch)::l2)) (dP a s T) (gZ w0 ρ α 0 s.hp++ps) W:=hst
 have hmem:(⟨(α n0).b,(ah ρ α b.c).toArray,b.t⟩:Ch)∈l1++((⟨(α n0).b,(ah ρ α b.c).toArray,b.t⟩:Ch)::l2):=ai
 have hat:=hst.at_ hmem
 have hge:w0.w.heap.size≤(α n0).b:=(hst.DF hmem).resolve_right (by rw [hms];simp)
 have hlt:=hst.O8 hmem
 have hnm:(α n0).b∉bk (l1++l2) (dP a s T):=by
  have hnd:=hst.nodup
  unfold bk at hnd ⊢
  rw [List.map_append,List.map_cons]at hnd
  rw [List.map_append]
  have hp:(l1.map (·.id)++(α n0).b::l2.map (·.id)++(dP a s T).flatMap Ow.dS).Perm ((α n0).b::(l1.map (·.id)++l2.map (·.id)++(dP a s T).flatMap Ow.dS)):=by
   simp only [List.append_assoc,List.cons_append]
   exact List.perm_middle
  exact(List.nodup_cons.1 (hp.nodup_iff.1 hnd)).1
 have hst2:St w0 (l1++l2) (dP a s T) (gZ w0 ρ α 0 s.hp++ps) W:=hst.oW (wK _ _ _) (.refl _) fun _ h=>h
 have hst3:=hst2.eO (p:=fun W=>W.heap[(α n0).b]?=some (.cells (ah ρ α b.c).toArray b.t (0,0))∧w0.w.heap.size≤(α n0).b) fun W' hW=>⟨(hW.block _ hlt hnm).trans hat,hge⟩
 refine⟨hI.defers,⟨hI.good.len,hI.good.fit,hI.good.kn⟩,⟨hI.wf.fr,hI.wf.stk,fun d hd=>?_,hI.wf.ln⟩,hI.fm,hI.lO,?_,fun m c hc=>?_,hI.lens⟩
 ·rcases mem_set hd with h|h
  ·obtain rfl:d=⟨b.c,b.t,.froz⟩:=af h
   exact hI.wf.hp b (List.mem_of_getElem? hn)
  exact hI.wf.hp d h
 ·show St w0 (aU ρ α 0 (s.hp.set n0 (some ⟨b.c,b.t,.froz⟩))) (dP a s T) (gZ w0 ρ α 0 (s.hp.set n0 (some ⟨b.c,b.t,.froz⟩))++ps) W
  rw [h2]
  have e:(some (⟨b.c,b.t,.froz⟩:ak)).bind (fun b=>b.ch ρ α (0+n0))=none:=by simp [ak.ch]
  rw [e]
  refine jF hst3 fun p hp=>?_
  rcases List.mem_append.1 hp with hp|hp
  ·obtain⟨m,c,hc,he⟩:=cL.1 hp
   rw [Nat.zero_add]at he
   rcases bD hc with ⟨rfl,rfl⟩|⟨_,h⟩
   ·simp only [ak.ex,Option.some.injEq]at he
    subst he
    exact List.mem_cons_self ..
   exact List.mem_cons_of_mem _ (List.mem_append.2 (.inl (cL.2 ⟨m,c,h,by rw [Nat.zero_add];exact he⟩)))
  exact List.mem_cons_of_mem _ (List.mem_append.2 (.inr hp))
 rcases bD hc with ⟨rfl,rfl⟩|⟨_,h⟩
 ·exact⟨hI.live _ _ hn,by simp [ak.bB]⟩
 exact hI.rows m c h
theorem Jq{k:Nat}{ops:Array Oper}{n0:Nat}(h:Ly k s ops=some n0):k=12∧∃ b sz,s.hp[n0]?=some (some b)∧b.k=.row sz:=by
 unfold Ly at h
 split at h
 ·rename_i hk
  refine⟨hk,?_⟩
  split at h
  ·have hm:=List.mem_of_getElem? h
   obtain⟨j,_,hj⟩:=List.mem_filterMap.1 hm
   split at hj
   ·split at hj
    ·split at hj
     ·rename_i b hb
      split at hj
      ·rename_i sz hbk
       cases hj
       exact⟨b,sz,join_some hb,hbk⟩
      cases hj
     cases hj
    cases hj
   cases hj
  cases h
 cases h
theorem aF.cE(hI:aF w0 ps T ρ s a W α)(hms:w0.ms=[]){n0 sz:Nat}{b:ak}(hn:s.hp[n0]?=some (some b))(hk:b.k=.row sz):aF w0 ps T ρ (s.cE n0) a W α:=by
 have hfz:s.cE n0=s.lay n0 ⟨b.c,b.t,.ext sz⟩:=by unfold S.cE;rw [hn];simp only [Option.join,Option.bind_some,id,hk]
 rw [hfz]
 obtain⟨c,e,kk⟩:=b
 cases hk
 obtain⟨l1,l2,h1,h2⟩:=cy (ρ:=ρ) (α:=α) (k:=0) hn
 have key:∃ A len cap,(α n0).h=.slice A len cap∧((ah ρ α c).flatMap ae).length=len*sz∧len≤cap∧(0<len→A.isSome=true)∧St w0 (l1++l2) (dP a s T) (jW w0 ⟨(α n0).h,sz,(ah ρ α c).flatMap ae⟩::(gZ w0 ρ α 0 s.hp++ps)) W:=by
  have hst:=hI.st
  rw [h1]at hst
  obtain⟨h0,h|⟨len,cap,g2,g3,g4,g5,g6,hm⟩⟩:=eE hI hn
  ·have hch:(some (⟨c,e,.row sz⟩:ak)).bind (fun b=>b.ch ρ α (0+n0))=none:=by simp [ak.ch,h.2]
   rw [hch]at hst
   refine⟨none,0,0,h.2,by rw [h.1];simp,Nat.le_refl _,fun h=>absurd h (Nat.lt_irrefl _),?_⟩
   rw [h.1,h.2]
   exact St.eO hst fun W' _=>⟨⟨Rd.none_,Nat.le_refl _⟩,.inl fun ad n c e _=>by cases e⟩
  have hch:(some (⟨c,e,.row sz⟩:ak)).bind (fun b=>b.ch ρ α (0+n0))=some ⟨(α n0).b,((ah ρ α c).flatMap ae++(α n0).tl).toArray,e⟩:=by
   simp only [Option.bind_some,ak.ch,Nat.zero_add,g2];rfl
  rw [hch]at hst
  have hst:St w0 (l1++((⟨(α n0).b,((ah ρ α c).flatMap ae++(α n0).tl).toArray,e⟩:Ch)::l2)) (dP a s T) (gZ w0 ρ α 0 s.hp++ps) W:=hst
  have hmem:(⟨(α n0).b,((ah ρ α c).flatMap ae++(α n0).tl).toArray,e⟩:Ch)∈l1++((⟨(α n0).b,((ah ρ α c).flatMap ae++(α n0).tl).toArray,e⟩:Ch)::l2):=ai
  have hat:=hst.at_ hmem
  have hge:w0.w.heap.size≤(α n0).b:=(hst.DF hmem).resolve_right (by rw [hms];simp)
  have hlt:=hst.O8 hmem
  have hnm:(α n0).b∉bk (l1++l2) (dP a s T):=by
   have hnd:=hst.nodup
   unfold bk at hnd ⊢
   rw [List.map_append,List.map_cons]at hnd
   rw [List.map_append]
   have hp:(l1.map (·.id)++(α n0).b::l2.map (·.id)++(dP a s T).flatMap Ow.dS).Perm ((α n0).b::(l1.map (·.id)++l2.map (·.id)++(dP a s T).flatMap Ow.dS)):=by
    simp only [List.append_assoc,List.cons_append]
    exact List.perm_middle
   exact(List.nodup_cons.1 (hp.nodup_iff.1 hnd)).1
  have hst2:St w0 (l1++l2) (dP a s T) (gZ w0 ρ α 0 s.hp++ps) W:=hst.oW (wK _ _ _) (.refl _) fun _ h=>h
  refine⟨_,len,cap,g2,g3,g5,fun _=>rfl,?_⟩
  rw [g2]
  refine hst2.eO fun W' hW=>⟨⟨?_,g5⟩,.inl fun ad n c e _=>?_⟩
  ·refine Rd.mL ((hW.block _ hlt hnm).trans hat) g3 fun j u hu=>?_
   rw [Nat.zero_add,List.getElem?_toArray,List.getElem?_append_left (List.getElem?_eq_some_iff.1 hu).1]
   exact hu
  cases e
  exact hge
 obtain⟨A,len,cap,k1,k2,k3,k4,hst3⟩:=key
 have k0:0<sz:=(eE hI hn).1
 have kl:=hI.live _ _ hn
 refine⟨hI.defers,⟨hI.good.len,hI.good.fit,hI.good.kn⟩,⟨hI.wf.fr,hI.wf.stk,fun d hd=>?_,hI.wf.ln⟩,hI.fm,hI.lO,?_,fun m c hc=>?_,hI.lens⟩
 ·rcases mem_set hd with h|h
  ·obtain rfl:d=⟨c,e,.ext sz⟩:=af h
   exact hI.wf.hp ⟨c,e,.row sz⟩ (List.mem_of_getElem? hn)
  exact hI.wf.hp d h
 ·show St w0 (aU ρ α 0 (s.hp.set n0 (some ⟨c,e,.ext sz⟩))) (dP a s T) (gZ w0 ρ α 0 (s.hp.set n0 (some ⟨c,e,.ext sz⟩))++ps) W
  rw [h2]
  have e2:(some (⟨c,e,.ext sz⟩:ak)).bind (fun b=>b.ch ρ α (0+n0))=none:=by simp [ak.ch]
  rw [e2]
  refine jF hst3 fun p hp=>?_
  rcases List.mem_append.1 hp with hp|hp
  ·obtain⟨m,c',hc,he⟩:=cL.1 hp
   rw [Nat.zero_add]at he
   rcases bD hc with ⟨rfl,rfl⟩|⟨_,h⟩
   ·simp only [ak.ex,Option.some.injEq]at he
    subst he
    exact List.mem_cons_self ..
   exact List.mem_cons_of_mem _ (List.mem_append.2 (.inl (cL.2 ⟨m,c',h,by rw [Nat.zero_add];exact he⟩)))
  exact List.mem_cons_of_mem _ (List.mem_append.2 (.inr hp))
 rcases bD hc with ⟨rfl,rfl⟩|⟨_,h⟩
 ·exact⟨kl,k0,A,len,cap,k1,k2,k3,k4⟩
 exact hI.rows m c h
theorem aF.PN(hI:aF w0 ps T ρ s a W α){fr':List (Option V)}(hl:fr'.length=s.fr.length)(h:∀ (d:Nat)(v':V),fr'[d]?=some (some v')→v'.wf s.ln ρ.length=true∧∃ v,s.fr[d]?=some (some v)∧v'.den ρ α=v.den ρ α):aF w0 ps T ρ { s with fr:=fr' } a W α:=by
 refine⟨hI.defers,⟨hI.good.len,hI.good.fit,hI.good.kn⟩,⟨fun v hv=>?_,hI.wf.stk,hI.wf.hp,hI.wf.ln⟩,⟨by rw [hI.fm.1,hl],fun d v hd=>?_⟩,hI.lO,hI.st,hI.rows,hI.lens⟩
 ·obtain⟨d,hd⟩:=List.mem_iff_getElem?.1 hv
  exact(h d v hd).1
 obtain⟨_,u,hu,e⟩:=h d v hd
 rw [hI.fm.2 d u hu,e]
theorem aF.last(hI:aF w0 ps T ρ s a W α)(hps:me C w0 ps)(hms:w0.ms=[])(hla:C.la=true→w0.rf C.nb){n0 sz:Nat}{b:ak}(hn:s.hp[n0]?=some (some b))(hk:b.k=.row sz∨(C.la=true∧b.k=.ext sz)) :
 ∃ A len cap,(α n0).h=.slice A len cap∧(b.xs ρ α).length=len*sz∧len≤cap∧(0<len→A.isSome=true)∧Inv w0 (Kf (C.plus ([⟨(α n0).h,sz,b.xs ρ α⟩]++C.N))::NF (C.plus ([⟨(α n0).h,sz,b.xs ρ α⟩]++C.N))::ps) T (ρ++[(α n0).h]) (s.last n0) a W:=by
 obtain⟨c,e,kk⟩:=b
 have hxs:∀ k':BK,(⟨c,e,k'⟩:ak).xs ρ α=(ah ρ α c).flatMap ae:=fun _=>rfl
 have hmain:(∃ A len cap,(α n0).h=.slice A len cap∧((ah ρ α c).flatMap ae).length=len*sz∧len≤cap∧(0<len→A.isSome=true))∧fV C.nb (α n0).h∧aF w0 ps T ρ (s.cE n0) a W α∧(s.cE n0).hp[n0]?=some (some ⟨c,e,.ext sz⟩)∧(s.cE n0).fr=s.fr∧(s.cE n0).sh=s.sh:=by
  rcases hk with hk|⟨hl,hk⟩
  ·cases hk
   have hfz:s.cE n0=s.lay n0 ⟨c,e,.ext sz⟩:=by unfold S.cE;rw [hn];simp only [Option.join,Option.bind_some,id]
   have hri:=eE hI hn
   have hh:∃ A len cap,(α n0).h=.slice A len cap∧((ah ρ α c).flatMap ae).length=len*sz∧len≤cap∧(0<len→A.isSome=true):=by
    rcases hri.2 with h|⟨len,cap,h,h2,_,h4,_⟩
    ·exact⟨_,_,_,h.2,by rw [h.1];simp,Nat.le_refl _,fun h=>absurd h (Nat.lt_irrefl _)⟩
    exact⟨_,_,_,h,h2,h4,fun _=>rfl⟩
   have hF:Mn w0 (α n0).h:=by
    rcases hri.2 with h|⟨len,cap,h,_,_,_,_,hm⟩
    ·rw [h.2];intro ad n c e _;cases e
    intro ad n c' e2 _
    rw [h]at e2
    cases e2
    exact(hI.st.DF hm).resolve_right (by rw [hms];simp)
   refine⟨hh,fun ad n c' e2 hn2=>Nat.le_trans hps.2.2.2.1 (hF ad n c' e2 hn2),hI.cE hms hn rfl,?_,by rw [hfz];rfl,by rw [hfz];rfl⟩
   rw [hfz]
   simp only [S.lay]
   rw [List.getElem?_set_self (List.getElem?_eq_some_iff.1 hn).1]
  cases hk
  have hfz:s.cE n0=s:=by unfold S.cE;rw [hn];simp only [Option.join,Option.bind_some,id]
  rw [hfz]
  obtain⟨_,_,hr⟩:=hI.rows n0 _ hn
  have hf:jW w0 ⟨(α n0).h,sz,(ah ρ α c).flatMap ae⟩ W:=hI.st.fact (List.mem_append.2 (.inl (cL.2 ⟨n0,⟨c,e,.ext sz⟩,hn,by simp only [ak.ex,Nat.zero_add];rfl⟩)))
  refine⟨hr,?_,hI,hn,rfl,rfl⟩
  rcases hf.2 with h|⟨_,h⟩
  ·exact fun ad n c' e2 hn2=>Nat.le_trans hps.2.2.2.1 (h ad n c' e2 hn2)
  exact h C.nb (hla hl)
 obtain⟨hh,hF,hA1,hhp,hfr0,hsh0⟩:=hmain
 obtain⟨A,len,cap,h1,h2,h3,h4⟩:=hh
 refine⟨A,len,cap,h1,h2,h3,h4,?_⟩
 have hone:Sh.one.fit (α n0).h=true:=by rw [h1];rfl
 have hA2:=hA1.ext (h:=.one) (v:=(α n0).h) hone
 have hgl:s.sh.length=ρ.length:=hI.good.len
 have hA3:aF w0 ps T (ρ++[(α n0).h]) (s.last n0) a W α:=by
  refine aF.PN (s:=(s.cE n0).ext .one) hA2 (by simp [S.ext]) fun d v' hd=>?_
  have hd2:((s.cE n0).fr.map (Gy n0 s.sh.length))[d]?=some (some v'):=hd
  clear hd
  rw [List.getElem?_map,Option.map_eq_some_iff]at hd2
  obtain⟨o,ho,hd⟩:=hd2
  unfold Gy at hd
  have hold:∀ v,o=some v→v'=v→v'.wf ((s.cE n0).ext .one).ln (ρ++[(α n0).h]).length=true∧∃ v,((s.cE n0).ext .one).fr[d]?=some (some v)∧v'.den (ρ++[(α n0).h]) α=v.den (ρ++[(α n0).h]) α:=by
   rintro v rfl rfl
   exact⟨hA2.wf.fr _ (List.mem_of_getElem? ho),v',ho,rfl⟩
  split at hd
  ·rename_i k
   split at hd
   ·rename_i hkn
    subst hkn
    obtain rfl:V.x s.sh.length []=v':=af hd
    refine⟨by simp only [V.wf,decide_eq_true_eq,List.length_append,List.length_cons,List.length_nil];omega,.row k,ho,?_⟩
    simp only [V.den,List.foldl_nil,hgl]
    simp [List.getD_eq_getElem?_getD]
   exact hold _ rfl (by simpa using hd.symm)
  exact hold v' hd rfl
 have hps1:∀ W',bp (bk (aU (ρ++[(α n0).h]) α 0 (s.last n0).hp) (dP a (s.last n0) T)) W W'→jW w0 ⟨(α n0).h,sz,(⟨c,e,.ext sz⟩:ak).xs (ρ++[(α n0).h]) α⟩ W':=fun W' hW=>by
  refine hA3.st.pers _ (List.mem_append.2 (.inl (cL.2 ⟨n0,⟨c,e,.ext sz⟩,?_,?_⟩))) W' hW
  ·exact hhp
  simp only [ak.ex,Nat.zero_add]
 have hxs2:(⟨c,e,.ext sz⟩:ak).xs (ρ++[(α n0).h]) α=(⟨c,e,kk⟩:ak).xs ρ α:=by
  have hwf:=hI.wf.hp ⟨c,e,kk⟩ (List.mem_of_getElem? hn)
  show(ah (ρ++[(α n0).h]) α c).flatMap ae=(ah ρ α c).flatMap ae
  rw [ez (hp:=s.ln) (fun _ _=>rfl) ⟨[_],rfl⟩ c hwf]
 rw [hxs2]at hps1
 exact⟨α,hA3.plus hps fun W' hW y hy=>by
  rcases List.mem_append.1 hy with hy|hy
  ·obtain rfl:y=⟨(α n0).h,sz,(⟨c,e,kk⟩:ak).xs ρ α⟩:=af hy
   exact⟨(hps1 W' hW).1,hF⟩
  exact hps.Ca hA3 W' hW y hy⟩
theorem z8{P:Program}{g:Nat}{op:Op}{vs:List V}{n0 len:Nat}{b:ak}(h:MM P g s op vs=some (n0,b,len)):g=12∧∃ t x e,op=.convert t t x∧vs=[.sl n0 0 len len]∧P.underlying t=some (.slice e)∧P.underlying e=some (.int .u8)∧s.hp[n0]?=some (some b)∧b.k=.cells∧b.t=e∧b.c.length=len∧0<len:=by
 unfold MM at h
 split at h
 ·rename_i t t' x n len' cap
  split at h
  ·rename_i e b' hsl hb
   split at h
   ·rename_i hu
    split at h
    ·rename_i hc
     obtain⟨hg,rfl,h1,h2,h3,rfl,h4⟩:=hc
     cases h
     exact⟨hg,t,x,e,rfl,rfl,aV hsl,hu,join_some hb,h1,h2,h3,h4⟩
    cases h
   cases h
  cases h
 cases h
theorem _root_.Go.Proofs.YtidekfgkpindbaaGreatDoor.St.mark{w0:fB}{W W':World}{l1 l2:List Ch}{e:Ch}{os:List Ow}{ps:List (World→Prop)}(h:St w0 (l1++e::l2) os ps W)(hos:W'.os=W.os)(htp:W'.tape=W.tape)(hout:W'.output=W.output)(hsm:bp [e.id] W W'):St w0 (l1++l2) os ps W':=by
 have hmem:e∈l1++e::l2:=ai
 have hp:(bk (l1++e::l2) os).Perm (e.id::bk (l1++l2) os):=by
  unfold bk
  simp only [List.map_append,List.map_cons,List.append_assoc,List.cons_append]
  exact List.perm_middle
 have hnd:=List.nodup_cons.1 (hp.nodup_iff.1 h.nodup)
 have hkm:e.id∈bk (l1++e::l2) os:=hp.mem_iff.2 (List.mem_cons_self ..)
 have hkl:=h.gL hkm
 have hsub:∀ x∈l1++l2,x∈l1++e::l2:=fun x hx=>by simp only [List.mem_append,List.mem_cons]at hx ⊢;rcases hx with h|h;exact .inl h;exact .inr (.inr h)
 have hoth:∀ b,b<W.heap.size→b≠e.id→W'.heap[b]?=W.heap[b]?:=fun b hb hn=>hsm.block b hb (af hn)
 refine⟨⟨hos.trans h.b5.os,htp.trans h.b5.tape,hout.trans h.b5.output,Nat.le_trans h.b5.size hsm.size,fun b hb hn=>?_⟩,fun x hx=>?_,fun x hx=>?_,hnd.2,fun p hp2 W2 h2=>h.pers p hp2 W2 ?_⟩
 ·rw [hoth b (Nat.lt_of_lt_of_le hb h.b5.size) (by
   rintro rfl;rcases hkl.1 with h1|h1;· omega
   exact hn h1)]
  exact h.b5.block b hb hn
 ·have h3:=h.dS x (hsub x hx)
  refine⟨h3.1,(hoth _ (Array.getElem?_eq_some_iff.1 h3.2).1 fun h4=>hnd.1 ?_).trans h3.2⟩
  rw [← h4]
  exact List.mem_append.2 (.inl (List.mem_map.2 ⟨x,hx,rfl⟩))
 ·have h3:=h.own x hx
  refine⟨h3.1,(hoth _ (Array.getElem?_eq_some_iff.1 h3.2).1 fun h4=>hnd.1 ?_).trans h3.2⟩
  rw [← h4]
  exact List.mem_append.2 (.inr (List.mem_flatMap.2 ⟨x,hx,by simp [Ow.dS]⟩))
 refine bp.trans (ids:=bk (l1++e::l2) os) ⟨hsm.size,fun b hb hn=>hoth b hb fun e'=>hn (e'▸hkm)⟩ ⟨h2.size,fun b hb hn=>h2.block b hb fun h4=>hn (hp.mem_iff.2 (List.mem_cons_of_mem _ h4))⟩
theorem MN{K:Act→World→Prop}{Q:Exit→Act→World→Prop}{o:Oper}{vs:List V}{n0 len:Nat}{b:ak}{g:Nat}(hms:w0.ms=[])(hvs:o.op.operands.toList.mapM s.ev=some vs)(h:MM C.P g s o.op vs=some (n0,b,len))(hI:aF w0 ps T ρ s a W α)
 (hw:aW ((s.lay n0 bH).room 1) s.hp.length (.row s.hp.length) (some ⟨[.a b.c],0,.ext 1⟩) none=true) (hf:dg ((s.lay n0 bH).room 1) s.hp.length=true) (hK:∀ a' W',Inv w0 ps T ρ (((s.lay n0 bH).room 1).dl s.hp.length o.dst (.row s.hp.length) (some ⟨[.a b.c],0,.ext 1⟩) none) a' W'→K a' W'):o.wp C.P a W K Q:=by
 obtain⟨_,t,x,e,hop,rfl,ht,he,hn,hk,rfl,hlen,hpos⟩:=z8 h
 have hx:=cN hI.good hI.fm hvs
 rw [hop]at hx
 simp [Op.operands,ah,V.den]at hx
 obtain⟨l1,l2,h1,h2⟩:=cy (ρ:=ρ) (α:=α) (k:=0) hn
 have hch:(some b).bind (fun b=>b.ch ρ α (0+n0))=some ⟨(α n0).b,(ah ρ α b.c).toArray,b.t⟩:=by simp [ak.ch,hk]
 have hst:=hI.st
 rw [h1,hch]at hst
 have hst:St w0 (l1++((⟨(α n0).b,(ah ρ α b.c).toArray,b.t⟩:Ch)::l2)) (dP a s T) (gZ w0 ρ α 0 s.hp++ps) W:=hst
 have hmem:(⟨(α n0).b,(ah ρ α b.c).toArray,b.t⟩:Ch)∈l1++((⟨(α n0).b,(ah ρ α b.c).toArray,b.t⟩:Ch)::l2):=ai
 have hat:=hst.at_ hmem
 have hge:w0.w.heap.size≤(α n0).b:=(hst.DF hmem).resolve_right (by rw [hms];simp)
 have hlt:=hst.O8 hmem
 have hsz:(ah ρ α b.c).toArray.size=len:=by simp [aq,hlen]
 have hrun:(convert t t (.slice (some ⟨(α n0).b,0,none⟩) len len)).run C.P W=.ok (.slice (some ⟨(α n0).b,0,none⟩) len len) (W.freeze ⟨(α n0).b,len,none⟩ 1):=by
  have hshp:W.shape? (α n0).b=some (b.t,len):=by unfold World.shape?;rw [hat];simp [aq,hlen]
  simp [convert,run_underlying ht,run_underlying he,markStringish,hshp]
 have hW':(W.freeze ⟨(α n0).b,len,none⟩ 1).heap=W.heap.modify (α n0).b fun
  | .cells c elem (lo,hi)=>.cells c elem (if lo == hi then(len,len+1)else(min lo len,max hi (len+1)))
  | o=>o:=rfl
 have hsm:bp [(α n0).b] W (W.freeze ⟨(α n0).b,len,none⟩ 1):=by
  refine⟨by rw [hW',Array.size_modify];exact Nat.le_refl _,fun c hc hn=>?_⟩
  rw [hW',Array.getElem?_modify,if_neg fun h=>hn (by simp [h])]
 have hat':(W.freeze ⟨(α n0).b,len,none⟩ 1).heap[(α n0).b]?=some (.cells (ah ρ α b.c).toArray b.t (len,len+1)):=by
  rw [hW',Array.getElem?_modify,if_pos rfl,hat]
  rfl
 have hst2:=St.mark hst (W':=W.freeze ⟨(α n0).b,len,none⟩ 1) rfl rfl rfl hsm
 have hA:aF w0 ps T ρ (s.lay n0 bH) a (W.freeze ⟨(α n0).b,len,none⟩ 1) α:=by
  refine⟨hI.defers,⟨hI.good.len,hI.good.fit,hI.good.kn⟩,⟨hI.wf.fr,hI.wf.stk,fun d hd=>?_,hI.wf.ln⟩,hI.fm,hI.lO,?_,fun m c hc=>?_,hI.lens⟩
  ·rcases mem_set hd with h|h
   ·obtain rfl:d=bH:=af h
    rfl
   exact hI.wf.hp d h
  ·show St w0 (aU ρ α 0 (s.hp.set n0 (some bH))) (dP a s T) (gZ w0 ρ α 0 (s.hp.set n0 (some bH))++ps) _
   rw [h2]
   have e0:(some bH).bind (fun b=>b.ch ρ α (0+n0))=none:=by simp [ak.ch,bH]
   rw [e0]
   refine jF hst2 (gq (iW fun m c hc=>?_))
   rcases bD hc with ⟨rfl,rfl⟩|⟨_,h⟩
   ·exact .inl rfl
   exact .inr ⟨c,h,rfl⟩
  rcases bD hc with ⟨rfl,rfl⟩|⟨_,h⟩
  ·exact⟨hI.live _ _ hn,by simp [ak.bB,bH]⟩
  exact hI.rows m c h
 have hxs:(⟨[.a b.c],0,.ext 1⟩:ak).xs ρ α=ah ρ α b.c:=by simp [ak.xs,ah,V.den,ae]
 have hfin:=jX (s:=s.lay n0 bH |>.room 1) (o:=o) (K:=K) (nm:=s.hp.length) (v:=.row s.hp.length) (b:=⟨[.a b.c],0,.ext 1⟩) (sz:=1) (u:=.slice (some ⟨(α n0).b,0,none⟩) len len) (hA.room 1) (eM hf) rfl hw hK ⟨0,.slice (some ⟨(α n0).b,0,none⟩) len len,[]⟩ (hA.room 1).st aj ⟨_,_,_,rfl,by rw [hxs,aq,hlen,Nat.mul_one],Nat.le_refl _,fun _=>rfl⟩ (fun W2 hW2=>?_) (fun α' h1 _=>by simp only [V.den,h1])
 ·unfold Oper.wp execOp
  simp only [hop,hx,Sem.run_bind,Sem.run_pure,Result.andThen_ok,hrun]
  exact hfin
 rw [hxs]
 refine⟨⟨?_,Nat.le_refl _⟩,.inl fun ad n' c' e' _=>?_⟩
 ·have hR:Rd (W.freeze ⟨(α n0).b,len,none⟩ 1) 1 (some ⟨(α n0).b,0,none⟩) len (ah ρ α b.c):=by
   refine⟨by rw [aq,hlen,Nat.mul_one],fun _=>⟨_,rfl,(Array.getElem?_eq_some_iff.1 hat').1,fun j u hu=>?_⟩⟩
   have hadd:(⟨(α n0).b,0,none⟩:Addr).add j=⟨(α n0).b,j,none⟩:=by unfold Addr.add;split<;>simp_all
   rw [hadd]
   unfold World.cell?
   simp only [hat',Option.isSome_none,Bool.false_eq_true,if_false]
   rw [List.getElem?_toArray]
   exact hu
  refine hR.same hW2 fun ad e' hm=>?_
  cases e'
  have hm:(α n0).b∈bk (aU ρ α 0 (s.hp.set n0 (some bH)++List.replicate 1 none)) (dP a s T):=hm
  rw [fW,h2,show(some bH).bind (fun b=>b.ch ρ α (0+n0))=none by simp [ak.ch,bH]]at hm
  have hm:(α n0).b∈bk (l1++l2) (dP a s T):=hm
  have hp:(bk (l1++((⟨(α n0).b,(ah ρ α b.c).toArray,b.t⟩:Ch)::l2)) (dP a s T)).Perm ((α n0).b::bk (l1++l2) (dP a s T)):=by
   unfold bk
   simp only [List.map_append,List.map_cons,List.append_assoc,List.cons_append]
   exact List.perm_middle
  exact(List.nodup_cons.1 (hp.nodup_iff.1 hst.nodup)).1 hm
 cases e'
 exact hge
theorem Ku(hC:C.Ok)(hps:me C w0 ps){G:kp}(hk12:G.eO=12→w0.ms=[]∧(C.la=true→w0.rf C.nb)){n lv:Nat}{all:Array Oper}{o:Oper}{rest:List Oper}{k:List It}{J:List (Act→World→Prop)}{L:List (Cx→List Value→Prop)}(hI:Inv w0 ps T ρ s a W)(hwant:Region.wanted o (yielded all a.tmps)=true)
 (hrest:∀ s' ρ' a' W',VC C w0 ps T0 R L ρ' (run C G n lv s' (.ops all rest::k))→ρ<+:ρ'→Inv w0 ps T ρ' s' a' W'→dJ (jM k T) C.P all (jk C.P R k T J) rest a' W')
 (hself:∀ s' ρ',VC C w0 ps T0 R L ρ' (run C G n lv s' (.ops all (o::rest)::k))→ρ<+:ρ'→Inv w0 ps T ρ' s' a W→dJ (jM k T) C.P all (jk C.P R k T J) (o::rest) a W)
 (ih:∀ (lv:Nat) (s:S) (items:List It) (T:List TF) (J:List (Act→World→Prop)) (L:List (Cx→List Value→Prop)) (ρ:List Value) (a:Act) (W:World),VC C w0 ps T0 R L ρ (run C G n lv s items)→L.length=lv→Rel w0 ps T0 L ρ items T J→Inv w0 ps T ρ s a W→jk C.P R items T J .normal a W)
 (hN:(∀ f,C.cw f=none)→∀ (N:List Arg) (ps':List (World→Prop)),kr (C.plus N) ps' n) (hL:L.length=lv) (hr:Rel w0 ps T0 L ρ k T J) (hv:VC C w0 ps T0 R L ρ (PZ C G n lv s all o rest k)):dJ (jM k T) C.P all (jk C.P R k T J) (o::rest) a W:=by
 have hleft:(∀ c,o.op≠.defer c)→o.wp C.P a W (dJ (jM k T) C.P all (jk C.P R k T J) rest) (jk C.P R k T J)→dJ (jM k T) C.P all (jk C.P R k T J) (o::rest) a W:=fun hd h=>jJ hwant (dt hd h)
 have hrefl:=List.prefix_refl ρ
 unfold PZ at hv
 split at hv
 ·simp [VC]at hv
 rename_i vs hvs
 split at hv
 ·rename_i n0 b len hcv
  split at hv
  ·rename_i hw
   simp only [Bool.and_eq_true]at hw
   obtain⟨α,hA⟩:=hI
   exact hleft (by obtain⟨_,t,x,e,hop,_⟩:=z8 hcv;rw [hop];exact fun c h=>nomatch h) (MN (hk12 (z8 hcv).1).1 hvs hcv hA hw.1 hw.2 fun a' W' h=>hrest _ ρ a' W' hv hrefl h)
  simp [VC]at hv
 rename_i hnn
 clear hnn
 split at hv
 ·rename_i g rw as' sh hnc
  split at hv
  ·rename_i hw
   simp only [VC]at hv
   rcases hv with ⟨v,hrel,_⟩|⟨hcw,Q,hq,hvv⟩
   ·exact(NM (hrel fun _=>default)).elim
   obtain⟨α,hA⟩:=hI
   refine hleft (by obtain⟨c,f,hop,_⟩:=yp hnc;rw [hop];exact fun c h=>nomatch h) (FJ hC hps hvs hnc hA (hq α) hw fun v N a' W' hfit hQ hI'=>?_)
   exact hN hcw (N++C.N) _ w0 T0 R G lv _ (.ops all rest::k) T J L (ρ++[v]) a' W' hk12 (hps.plus _) (by rw [jE C];exact hvv v N hfit hQ) hL ((Rel.mono ⟨[v],rfl⟩ (List.prefix_refl _) (k:=k) hr).Cq fun p hp=>List.mem_cons_of_mem _ (List.mem_cons_of_mem _ hp)) hI'
  simp [VC]at hv
 rename_i hnn
 clear hnn
 split at hv
 ·rename_i v wr hpl
  split at hv
  ·rename_i hw
   exact hleft (lX hpl nofun) (Lu hvs hpl hI hw fun a' W' h=>hrest _ ρ a' W' hv hrefl h)
  simp [VC]at hv
 ·rename_i v b wr hpl
  split at hv
  ·rename_i hw
   exact hleft (lX hpl nofun) (Ls hvs hpl hI hw fun a' W' h=>hrest _ ρ a' W' hv hrefl h)
  simp [VC]at hv
 ·rename_i q args sh mk wr hpl
  split at hv
  ·rename_i hw
   simp only [VC]at hv
   obtain⟨v,hrel,hfit,hv⟩:=hv.resolve_right fun⟨_,_,hq,_⟩=>by
    simp only [Bool.and_eq_true]at hw
    first
     | exact nL hw.1.2 (hq fun _=>default)
     | exact nL hw.1.1.2 (hq fun _=>default)
   obtain⟨α,hA⟩:=hI
   exact hleft (lX hpl nofun) (Lp hC hps hvs hpl hA (hrel α) hfit hw fun a' W' h=>hrest _ (ρ++[v]) a' W' hv ⟨[v],rfl⟩ h)
  simp [VC]at hv
 ·rename_i q args sh mk b wr hpl
  split at hv
  ·rename_i hw
   simp only [VC]at hv
   obtain⟨v,hrel,hfit,hv⟩:=hv.resolve_right fun⟨_,_,hq,_⟩=>by
    simp only [Bool.and_eq_true]at hw
    first
     | exact nL hw.1.2 (hq fun _=>default)
     | exact nL hw.1.1.2 (hq fun _=>default)
   obtain⟨α,hA⟩:=hI
   exact hleft (lX hpl nofun) (Lo hC hps hvs hpl hA (hrel α) hfit hw fun a' W' h=>hrest _ (ρ++[v]) a' W' hv ⟨[v],rfl⟩ h)
  simp [VC]at hv
 ·rename_i i p hpl
  split at hv
  ·rename_i hi
   simp only [VC]at hv
   obtain⟨b,hb,hbt,hbf⟩:=hv
   cases b
   ·exact hself _ ρ (hbf rfl) hrefl (mC hI hi hb)
   exact hself _ ρ (hbt rfl) hrefl (mC hI hi hb)
  simp [VC]at hv
 ·rename_i i p m hpl
  split at hv
  ·rename_i hi
   simp only [VC]at hv
   obtain⟨⟨j,hj,hu⟩,hv⟩:=hv
   have hj':j<m:=af hj
   have:=zw (j:=j) hv (t:=run C G n lv (s.dec i p (.int .i64 (j:Int))) (.ops all (o::rest)::k)) (by simp [hj']) (by rw [hu,Nat.zero_add])
   exact hself _ ρ this hrefl (mC hI hi hu)
  simp [VC]at hv
 split at hv
 ·rename_i n0 hz
  obtain⟨h12,b,hn0,hbk⟩:=Jr hz
  obtain⟨α,hA⟩:=hI
  exact hself _ ρ hv hrefl ⟨α,hA.freeze (hk12 h12).1 hn0 hbk⟩
 split at hv
 ·rename_i n0 sz c hz
  obtain⟨h12,b,hn0,hbk,rfl⟩:=JC hz
  simp only [VC]at hv
  rcases hv with ⟨v,hrel,_⟩|⟨hcw,Q,hq,hvv⟩
  ·exact(KG (hrel fun _=>default)).elim
  obtain⟨α,hA⟩:=hI
  obtain⟨A,len,cap,e1,e3,e4,e5,hI'⟩:=hA.last hps (hk12 h12).1 (hk12 h12).2 hn0 hbk
  have e2:(ah ρ α [V.cat b.c]).flatMap ae=b.xs ρ α:=by simp [ah,V.den,ae,ak.xs]
  have hq2:=hq α A len cap (by rw [e2];exact e3) e4 e5
  rw [e2,← e1]at hq2
  have:=hvv _ _ (by rw [e1];rfl) hq2
  exact hN hcw ([⟨(α n0).h,sz,b.xs ρ α⟩]++C.N) _ w0 T0 R G lv _ (.ops all (o::rest)::k) T J L (ρ++[(α n0).h]) a W hk12 (hps.plus _) (by rw [jE C];exact this) hL ((Rel.mono ⟨[_],rfl⟩ (List.prefix_refl _) (k:=k) hr).Cq fun p hp=>List.mem_cons_of_mem _ (List.mem_cons_of_mem _ hp)) hI'
 split at hv
 ·rename_i c g fs cap args hop _ _ _
  split at hv
  ·rename_i f fn hcal hfn hen
   split at hv
   ·rename_i body hbody
    split at hv
    ·rename_i hw
     simp only [Bool.and_eq_true,decide_eq_true_eq]at hw hen
     obtain⟨α,hA⟩:=hI
     have he:=cN hA.good hA.fm hvs
     rw [hop]at he
     obtain⟨cal,ar,at'⟩:=c
     simp only at hcal
     subst hcal
     simp only [Op.operands,Call.operands,ah,V.den]at he
     simp at he
     obtain⟨h7,h8⟩:=he
     refine hleft (by rw [hop];intro c h;cases h) (oe hop h7 (vs:=(ah ρ α (fs++(args++cap))).toArray) ?_ (de hen.1 _ _)
      (R:=fun v W'=>dJ (jM k T) C.P all (jk C.P R k T J) rest (({ tmps:=a.tmps,defers:=a.defers }:Act).put o.dst v) W') ?_ ?_)
     ·exact Array.ext' (by simp [ea,h8])
     ·refine cY hfn hbody ?_
      have hI':Inv w0 ps (⟨a.tmps,a.defers,none⟩::T) ρ { s with fr:=(fs++(args++cap)).map some++List.replicate (fn.ntmps-(fs++(args++cap)).length) (some (.k undef)),stk:=s.fr::s.stk,cur:=g }
       { tmps:=(ah ρ α (fs++(args++cap))).toArray++Array.replicate (fn.ntmps-(ah ρ α (fs++(args++cap))).toArray.size) undef,defers:=[] } W:=by
       refine⟨α,⟨nofun,hA.defers⟩,⟨hA.good.len,hA.good.fit,hA.good.kn⟩,⟨fun v hv'=>?_,fun f hf=>?_,hA.wf.hp,hA.wf.ln⟩,⟨by simp [aq];omega,fun d v hd=>?_⟩,⟨hA.fm,hA.lO⟩,hA.st,hA.rows,hA.lens⟩
       ·rcases List.mem_append.1 hv' with h|h
        ·obtain⟨u,hu,e⟩:=List.mem_map.1 h
         obtain rfl:u=v:=af e
         rw [← hA.good.len]
         exact dF hw.2 u hu
        ·have:=List.eq_of_mem_replicate h
         cases this
         rfl
       ·rcases List.mem_cons.1 hf with rfl|hf
        ·exact hA.wf.fr
        exact hA.wf.stk f hf
       rw [Array.getElem?_append]
       simp only [List.size_toArray,aq]
       by_cases hlt:d<(fs++(args++cap)).length
       ·rw [List.getElem?_append_left (af hlt),List.getElem?_map,List.getElem?_eq_getElem hlt]at hd
        simp only [Option.map_some,Option.some.injEq]at hd
        rw [if_pos hlt]
        simpa using dC (ρ:=ρ) (α:=α) (by rw [List.getElem?_eq_getElem hlt,hd])
       rw [List.getElem?_append_right (af hlt),List.getElem?_replicate]at hd
       rw [if_neg hlt,Array.getElem?_replicate]
       simp only [List.length_map]at hd
       split at hd
       ·rename_i h9
        rw [if_pos h9]
        cases hd
        rfl
       cases hd
      have:=ih lv _ (.code body::.back fn s.cur o.dst all rest::k) (⟨a.tmps,a.defers,none⟩::T) J L ρ _ W hv hL ⟨rfl,hr⟩ hI'
      exact this
     intro v W' h
     exact h
    simp [VC]at hv
   simp [VC]at hv
  simp [VC]at hv
 ·-- a round
  rename_i c m args hop _ _ _
  split at hv
  ·rename_i f m' lps' fr stk' cur ps' assign body hcal hlps hstk hend
   split at hv
   ·rename_i hw
    obtain⟨rfl,hw2,hw3⟩:=hw
    obtain⟨α,hA⟩:=hI
    obtain⟨hrn,c0,T',l,r,rfl,hlp,hp1,hp2,hp3⟩:=nh hend hr
    have hLps:=hA.defers.2
    rw [hlps]at hLps
    obtain⟨hm0,⟨q1,q2,q3,q4,q5⟩,hLt⟩:=(fC hlp).1 hLps
    have hst:=hA.st
    have hos:dP a s (c0::T')=gd a.defers++(⟨l,.loop r⟩::⟨r.defers,.deferred (some [])⟩::(gd c0.ds++eV lps' T')):=by
     unfold dP
     rw [hlps,dr hlp]
     simp only [LS.st,LS.pe,oL q3 q4]
    have hl:W.heap[l]?=some (.loop r):=(hst.own ⟨l,.loop r⟩ (by rw [hos];simp)).2
    have he:=cN hA.good hA.fm hvs
    rw [hop]at he
    obtain⟨cal,ar,at'⟩:=c
    simp only at hcal
    subst hcal
    simp only [Op.operands,Call.operands,ah,V.den]at he
    simp at he
    obtain⟨h7,h8⟩:=he
    have hfms:=hA.lO
    rw [hstk]at hfms
    have hwstk:=hA.wf.stk
    rw [hstk]at hwstk
    refine jJ hwant (Fj (l:=l) (r:=r) (vs:=(ah ρ α args).toArray) hop (by rw [h7,q2]) ?_ hl (by simp [aq,hw2,hp1]) q3 ?_)
    ·exact Array.ext' (by simp [h8])
    have hI':Inv w0 ps (⟨a.tmps,a.defers,none⟩::c0::T') ρ { s with fr:=A7 fr ps' args,stk:=s.fr::s.stk,cur:=cur } { tmps:=rR r (ah ρ α args).toArray,defers:=[] } W:=by
     refine⟨α,⟨nofun,hA.defers⟩,⟨hA.good.len,hA.good.fit,hA.good.kn⟩,⟨?_,fun f hf=>?_,hA.wf.hp,hA.wf.ln⟩,?_,⟨hA.fm,hA.lO⟩,hA.st,hA.rows,hA.lens⟩
     ·rw [← hA.good.len]
      exact uz _ _ _ (by rw [hA.good.len];exact hwstk fr (List.mem_cons_self ..)) hw3
     ·rcases List.mem_cons.1 hf with rfl|hf
      ·exact hA.wf.fr
      exact hA.wf.stk f hf
     rw [Et,q5,hp1]
     exact uy args _ _ _ _ hfms.1
    have h:=ih lv _ (.code assign::.beginR::.code body::.dT s.cur o.dst all rest::k) (⟨a.tmps,a.defers,none⟩::c0::T') J L ρ _ W hv hL ⟨⟨_,_,rfl,rfl,by simp [s8,hlp]⟩,rfl,by simp [s8,hlp],hr⟩ hI'
    have hrd:jM (.dT s.cur o.dst all rest::k) (⟨a.tmps,a.defers,none⟩::c0::T')=some l:=by simp [jM,hlp]
    have h:jd (jM (.dT s.cur o.dst all rest::k) (⟨a.tmps,a.defers,none⟩::c0::T')) C.P assign (jk C.P R (.beginR::.code body::.dT s.cur o.dst all rest::k) (⟨a.tmps,a.defers,none⟩::c0::T') J) { tmps:=rR r (ah ρ α args).toArray,defers:=[] } W:=h
    rw [hrd]at h
    subst hp2
    subst hp3
    refine lA h fun e a1 W1 hq=>?_
    cases e with
    | normal =>
     obtain⟨l',r',e1,e2,e3⟩:=hq
     have e1:c0.lp=some (l',r'):=e1
     rw [hlp]at e1
     cases e1
     refine⟨e2,?_⟩
     have e3:jd (jM (.dT s.cur o.dst all rest::k) (⟨a.tmps,a.defers,none⟩::c0::T')) C.P r.body (jk C.P R (.dT s.cur o.dst all rest::k) (⟨a.tmps,a.defers,none⟩::c0::T') J) a1 (W1.putObj l (.loop { r with state:=.busy })):=e3
     rw [hrd]at e3
     refine lA e3 fun e2 a2 W2 hq2=>?_
     obtain⟨l',r',e1,e2⟩:=hq2
     have e1:c0.lp=some (l',r'):=e1
     rw [hlp]at e1
     cases e1
     exact e2
    | exit id=>exact hq
    | ret=>exact hq
    | goto t=>exact hq
    | panic c=>exact hq
    | outgrown=>exact hq
   simp [VC]at hv
  simp [VC]at hv
 simp [VC]at hv
theorem H2:kr C ps 0:=by
 intro w0 T0 R G lv s items T J L ρ a W hk12 hps hv
 simp [run,VC]at hv
theorem Inv.sub{ps':List (World→Prop)}(hI:Inv w0 ps' T ρ s a W)(h:∀ p∈ps,p∈ps'):Inv w0 ps T ρ s a W:=let ⟨α,hA⟩:=hI;⟨α,hA.more fun p hp=>.inl (h p hp)⟩
theorem HX(hC:C.Ok){n:Nat}(ih0:kr C ps n)(hN:(∀ f,C.cw f=none)→∀ (N:List Arg)(ps':List (World→Prop)),kr (C.plus N) ps' n):kr C ps (n+1):=by
 intro w0 T0 R G lv s items T J L ρ a W hk12 hps hv hL hr hI
 have ih:=fun lv s items T J L ρ a W=>ih0 w0 T0 R G lv s items T J L ρ a W hk12 hps
 unfold run at hv
 split at hv
 ·simp [VC]at hv
 ·-- top
  rename_i fn k
  split at hv
  ·rename_i v hres
   split at hv
   ·rename_i hwf
    simp only [VC]at hv
    obtain⟨α,hA⟩:=hI
    obtain⟨W2,htk,hA⟩:=hA.take
    refine⟨W2,v.den ρ α,htk,AX hA hres,hv α W2 (by have:=hA.lO;rwa [show T=T0 from hr]at this) ?_ ?_⟩
    ·unfold Gu
     split
     ·exact fun m b h=>nomatch h
     ·exact fun m b h=>(hA.rows m b h).2
     exact fun m b h=>(hA.rows m b (ec h).1).2
    unfold Gu
    split
    ·exact hA.st.oW (List.nil_sublist _) (List.nil_sublist _) fun p h=>List.mem_append.2 (.inr (by simpa [gZ]using h))
    ·exact hA.st.oW (.refl _) (List.nil_sublist _) fun p h=>h
    exact hA.st.oW (na fun m b h=>⟨b,(ec h).1,rfl,rfl,rfl⟩) (List.nil_sublist _) (gq (iW fun m b h=>.inr ⟨b,(ec h).1,rfl⟩))
   simp [VC]at hv
  simp [VC]at hv
 ·-- back
  rename_i fn cur dst all rest k
  split at hv
  ·rename_i v fr stk hres hstk
   split at hv
   ·rename_i hwf
    obtain⟨α,hA⟩:=hI
    cases T with
    | nil=>exact hr.elim
    | cons t T =>
     obtain⟨W2,htk,hA⟩:=hA.take
     refine⟨W2,v.den ρ α,htk,AX hA hres,v.den ρ α,rfl,?_⟩
     have hfm:=hA.lO
     rw [hstk]at hfm
     have hI':Inv w0 ps T ρ (({ s with fr:=fr,stk:=stk,cur:=cur }:S).put dst v) (({ tmps:=t.t,defers:=t.ds }:Act).put dst (v.den ρ α)) W2:=by
      refine⟨α,aF.put (s:={ s with fr:=fr,stk:=stk,cur:=cur }) ⟨(ky hr.1).1 hA.defers.2,⟨hA.good.len,hA.good.fit,hA.good.kn⟩,⟨hA.wf.stk fr (by rw [hstk];exact List.mem_cons_self ..),fun f hf=>hA.wf.stk f (by rw [hstk];exact List.mem_cons_of_mem _ hf),hA.wf.hp,hA.wf.ln⟩,hfm.1,hfm.2,by have:=hA.st;unfold dP at this ⊢;rwa [gD hr.1]at this,hA.rows,hA.lens⟩ dst (by rw [← hA.good.len];exact hwf)⟩
     exact ih lv _ (.ops all rest::k) T J L ρ _ W2 hv hL hr.2 hI'
   simp [VC]at hv
  simp [VC]at hv
 ·-- again
  rename_i l an ws s0 k
  split at hv
  ·rename_i n0 sz c hz
   obtain⟨h12,b,hn0,hbk,rfl⟩:=Jz hz
   simp only [VC]at hv
   rcases hv with ⟨v,hrel,_⟩|⟨hcw,Q,hq,hvv⟩
   ·exact(KG (hrel fun _=>default)).elim
   obtain⟨α,hA⟩:=hI
   obtain⟨A,len,cap,e1,e3,e4,e5,hI'⟩:=hA.last hps (hk12 h12).1 (hk12 h12).2 hn0 (.inl hbk)
   have e2:(ah ρ α [V.cat b.c]).flatMap ae=b.xs ρ α:=by simp [ah,V.den,ae,ak.xs]
   have hq2:=hq α A len cap (by rw [e2];exact e3) e4 e5
   rw [e2,← e1]at hq2
   have:=hvv _ _ (by rw [e1];rfl) hq2
   exact hN hcw ([⟨(α n0).h,sz,b.xs ρ α⟩]++C.N) _ w0 T0 R G lv _ (.again l an ws s0::k) T J L (ρ++[(α n0).h]) a W hk12 (hps.plus _) (by rw [jE C];exact this) hL ((Rel.mono ⟨[_],rfl⟩ (List.prefix_refl _) hr).Cq fun p hp=>List.mem_cons_of_mem _ (List.mem_cons_of_mem _ hp)) hI'
  refine eo hps an.pos s ρ _ hv hI fun s ρ' hv hρ hI=>?_
  split at hv
  ·rename_i vals hvals
   split at hv
   ·rename_i hc
    simp only [Bool.and_eq_true,beq_iff_eq,decide_eq_true_eq]at hc
    obtain⟨⟨⟨⟨⟨⟨⟨h1,h2⟩,h3⟩,h3l⟩,h4⟩,h5⟩,h6⟩,h7⟩:=hc
    simp only [VC]at hv
    obtain⟨α,hA⟩:=hI
    cases J with
    | nil=>exact hr.elim
    | cons j J =>
     obtain⟨⟨ρ0,A,ps0,hp0,hA1,hp,hg,hw,hlive,hlpl,hj⟩,_⟩:=hr
     have hvv:=hv α
     rw [List.getD_eq_getElem?_getD,hA1]at hvv
     have hM:xf an ws s0 s:=by
      obtain⟨q1,q2⟩:=nl h1
      refine⟨⟨q1,fun d v hd1 hv'=>q2 d v (by rw [Nat.zero_add];exact hd1) hv'⟩,F6 h2,fun m b hb hnd=>?_,fun m b hb=>Dy h3l hb,hlive,h7,hlpl⟩
      have:=lL h3 m b hb (by rw [Nat.zero_add];exact hnd)
      simpa using this
     obtain⟨hf,hfit⟩:=tV hA (hp.trans hρ) hg hw hM hvals h5
     exact hj C ps _ a W hps hp0 hvv hfit hf
   simp [VC]at hv
  simp [VC]at hv
 ·-- a round begins
  rename_i k
  split at hv
  ·rename_i m lps' hlps
   obtain⟨⟨it,T1,rfl,hit,hl1⟩,hr⟩:=hr
   obtain⟨c,T',l,r,rfl,hlp⟩:=oD hl1
   obtain⟨α,hA⟩:=hI
   have hLps:=hA.defers.2
   rw [hlps,ky hit,fC hlp]at hLps
   obtain⟨hmi,hmc,⟨q1,q2,q3,q4,q5⟩,hLt⟩:=hLps
   have hst:=hA.st
   unfold dP at hst
   rw [hlps,gD hit,dr hlp,← List.append_assoc]at hst
   simp only [LS.st,LS.pe,oL q3 q4]at hst
   have hl:W.heap[l]?=some (.loop r):=(hst.own ⟨l,.loop r⟩ ai).2
   refine⟨l,r,hlp,hl,?_⟩
   refine ih lv _ k (it::c::T') J L ρ a (W.putObj l (.loop { r with state:=.busy })) hv hL hr ⟨α,⟨hA.defers.1,(ky hit).2 ⟨hmi,(fC hlp).2 ⟨hmc,⟨q1,q2,q3,q4,q5⟩,hLt⟩⟩⟩,⟨hA.good.len,hA.good.fit,hA.good.kn⟩,⟨hA.wf.fr,hA.wf.stk,hA.wf.hp,hA.wf.ln⟩,hA.fm,hA.lO,?_,hA.rows,hA.lens⟩
   unfold dP
   rw [gD hit,dr hlp,← List.append_assoc]
   simp only [LS.st,LS.pe,rM q4]
   exact St.G3 hst
  simp [VC]at hv
 ·-- a round ends
  rename_i cur dst all rest k
  split at hv
  ·rename_i m lps' fr stk hlps hstk
   cases T with
   | nil=>exact hr.elim
   | cons it T1 =>
    obtain⟨hit,hl1,hr⟩:=hr
    obtain⟨c,T',l,r,rfl,hlp⟩:=oD hl1
    obtain⟨α,hA⟩:=hI
    have hLps:=hA.defers.2
    rw [hlps,ky hit,fC hlp]at hLps
    obtain⟨hmi,hmc,⟨q1,q2,q3,q4,q5⟩,hLt⟩:=hLps
    have hst:=hA.st.oW (os':=eV s.lps (it::c::T')) (.refl _) (List.sublist_append_right _ _) fun _ h=>h
    rw [hlps,gD hit,dr hlp]at hst
    simp only [LS.st,LS.pe,rM q4]at hst
    have hl:W.heap[l]?=some (.loop { r with state:=.busy }):=(hst.own ⟨l,.loop { r with state:=.busy }⟩ ai).2
    have hfm:=hA.lO
    rw [hstk]at hfm
    refine⟨l,r,hlp,hl,?_⟩
    have hI':Inv w0 ps (c::T') ρ (({ s with fr:=fr,stk:=stk,lps:=(m,.ready)::lps',cur:=cur }:S).put dst (.k (.bool true))) (({ tmps:=it.t,defers:=it.ds }:Act).put dst (.bool true)) (W.putObj l (.loop { r with state:=.ready,pending:=none })):=by
     refine⟨α,aF.fN (s:={ s with fr:=fr,stk:=stk,lps:=(m,.ready)::lps',cur:=cur }) (v:=.k (.bool true)) ⟨⟨hmi,(fC hlp).2 ⟨hmc,⟨q1,q2,q3,q4,q5⟩,hLt⟩⟩,⟨hA.good.len,hA.good.fit,hA.good.kn⟩,⟨hA.wf.stk fr (by rw [hstk];exact List.mem_cons_self ..),fun f hf=>hA.wf.stk f (by rw [hstk];exact List.mem_cons_of_mem _ hf),hA.wf.hp,hA.wf.ln⟩,hfm.1,hfm.2,?_,hA.rows,hA.lens⟩ dst rfl rfl⟩
     unfold dP
     rw [dr hlp]
     simp only [LS.st,LS.pe]
     exact St.G3 hst
    exact ih lv _ (.ops all rest::k) (c::T') J L ρ _ _ hv hL hr hI'
  simp [VC]at hv
 ·-- a round is left
  rename_i j cur dst all rest k
  split at hv
  ·rename_i m lps' fr stk hlps hstk
   split at hv
   ·rename_i hpe
    cases T with
    | nil=>exact hr.elim
    | cons it T1 =>
     obtain⟨hit,hl1,hr⟩:it.lp=none∧(s8 T1).isSome=true∧Rel w0 ps T0 L ρ k T1 J:=hr
     obtain⟨c,T',l,r,rfl,hlp⟩:=oD hl1
     obtain⟨α,hA⟩:=hI
     have hLps:=hA.defers.2
     rw [hlps,ky hit,fC hlp]at hLps
     obtain⟨hmi,hmc,⟨q1,q2,q3,q4,q5⟩,hLt⟩:=hLps
     have hst:=hA.st.oW (os':=eV s.lps (it::c::T')) (.refl _) (List.sublist_append_right _ _) fun _ h=>h
     rw [hlps,gD hit,dr hlp]at hst
     simp only [LS.st,LS.pe,rM q4]at hst
     have hl:W.heap[l]?=some (.loop { r with state:=.busy }):=(hst.own ⟨l,.loop { r with state:=.busy }⟩ ai).2
     have hfm:=hA.lO
     rw [hstk]at hfm
     have hI':∀ W2,W2=W.putObj l (.loop { r with state:=j.st,pending:=j.pe })→Inv w0 ps (c::T') ρ (({ s with fr:=fr,stk:=stk,lps:=(m,j)::lps',cur:=cur }:S).put dst (.k (.bool false))) (({ tmps:=it.t,defers:=it.ds }:Act).put dst (.bool false)) W2:=by
      rintro W2 rfl
      refine⟨α,aF.fN (s:={ s with fr:=fr,stk:=stk,lps:=(m,j)::lps',cur:=cur }) (v:=.k (.bool false)) ⟨⟨hmi,(fC hlp).2 ⟨hmc,⟨q1,q2,q3,q4,q5⟩,hLt⟩⟩,⟨hA.good.len,hA.good.fit,hA.good.kn⟩,⟨hA.wf.stk fr (by rw [hstk];exact List.mem_cons_self ..),fun f hf=>hA.wf.stk f (by rw [hstk];exact List.mem_cons_of_mem _ hf),hA.wf.hp,hA.wf.ln⟩,hfm.1,hfm.2,?_,hA.rows,hA.lens⟩ dst rfl rfl⟩
      unfold dP
      rw [dr hlp]
      exact St.G3 hst
     have hgo:=fun W2 h=>ih lv _ (.ops all rest::k) (c::T') J L ρ _ W2 hv hL hr (hI' W2 h)
     cases j with
     | ready=>simp [LS.pe]at hpe
     | busy=>simp [LS.pe]at hpe
     | ret=>exact⟨.ret,rfl,l,r,hlp,hl,hgo _ rfl⟩
     | exit id=>exact⟨.exit id,rfl,l,r,hlp,hl,hgo _ rfl⟩
   simp [VC]at hv
  simp [VC]at hv
 ·simp [VC]at hv
 ·-- an iterator's end
  rename_i fn cur ps' assign body k
  split at hv
  ·rename_i v m q lps' fr stk hres hlps hstk
   split at hv
   ·simp [VC]at hv
   rename_i hq
   cases T with
   | nil=>exact hr.elim
   | cons c T' =>
    obtain⟨⟨l,r,hlp,hp1,hp2,hp3⟩,hrn,hr⟩:=hr
    obtain⟨α,hA⟩:=hI
    obtain⟨W2,htk,hA⟩:=hA.take
    have hLps:=hA.defers.2
    rw [hlps,fC hlp]at hLps
    obtain⟨hmc,⟨q1,q2,q3,q4,q5⟩,hLt⟩:=hLps
    have hst:St w0 (aU ρ α 0 s.hp) (eV s.lps (c::T')) _ W2:=hA.st
    rw [hlps,dr hlp]at hst
    have hl:W2.heap[l]?=some (.loop { r with state:=q.st,pending:=q.pe }):=(hst.own ⟨l,.loop { r with state:=q.st,pending:=q.pe }⟩ ai).2
    have hfm:=hA.lO
    rw [hstk]at hfm
    refine⟨W2,v.den ρ α,htk,AX hA hres,l,r,v.den ρ α,q.st,q.pe,hlp,rfl,by cases q<;>simp [LS.st]at hq ⊢,hl,?_⟩
    have hI':Inv w0 ps T' ρ { s with fr:=fr,stk:=stk,lps:=lps',cur:=cur } (yj r.defers { tmps:=c.t,defers:=c.ds }) (W2.putObj l (.loop { r with state:=.exhausted,pending:=q.pe })):=by
     refine⟨α,⟨fun d hd=>?_,hLt⟩,⟨hA.good.len,hA.good.fit,hA.good.kn⟩,⟨hA.wf.stk fr (by rw [hstk];exact List.mem_cons_self ..),fun f hf=>hA.wf.stk f (by rw [hstk];exact List.mem_cons_of_mem _ hf),hA.wf.hp,hA.wf.ln⟩,hfm.1,hfm.2,?_,hA.rows,hA.lens⟩
     ·rcases List.mem_cons.1 hd with rfl|hd
      ·exact⟨_,rfl⟩
      exact hmc d hd
     exact(St.G3 (a:=[]) hst).Ks
    cases hpe:q.pe with
    | none =>
     simp only [hpe]at hv hI' ⊢
     exact ih lv _ k T' J L ρ _ _ hv hL hr hI'
    | some co =>
     simp only [hpe]at hv hI' ⊢
     have:=ih lv _ (.code co::k) T' J L ρ _ _ hv hL hr hI'
     have this:jd (jM k T') C.P co (jk C.P R k T' J) _ _:=this
     rw [hrn]at this
     exact this
  simp [VC]at hv
 ·-- inBlock
  rename_i id k
  exact ih lv s k T J L ρ a W hv hL hr hI
 ·-- rounds
  rename_i c m k
  cases m with
  | zero=>simp [VC]at hv
  | succ m=>exact ih lv s (.code c::.rounds c m::k) T J L ρ a W hv hL hr hI
 ·-- code
  rename_i c k
  split at hv
  ·exact IJ (ih lv s k T J L ρ a W hv hL hr hI)
  ·exact Fg (ih lv s k T J L ρ a W hv hL hr hI)
  ·rename_i x y
   have:=ih lv s (.code x::.code y::k) T J L ρ a W hv hL hr hI
   exact CL this
  ·rename_i id c
   exact Ff (ih lv s (.code c::.inBlock id::k) T J L ρ a W hv hL hr hI)
  ·-- cond
   rename_i x c1 c2
   obtain⟨α,hA⟩:=hI
   split at hv
   ·rename_i hx
    exact mv (ox hA.good hA.fm hx) (ih lv s (.code c1::k) T J L ρ a W hv hL hr ⟨α,hA⟩)
   ·rename_i hx
    exact lz (ox hA.good hA.fm hx) (ih lv s (.code c2::k) T J L ρ a W hv hL hr ⟨α,hA⟩)
   ·rename_i i p hx
    split at hv
    ·rename_i hi
     simp only [VC]at hv
     obtain⟨b,hb,hbt,hbf⟩:=hv
     have hx':a.eval x=.bool b:=(ox hA.good hA.fm hx).trans hb
     cases b
     ·exact lz hx' (ih lv _ (.code c2::k) T J L ρ a W (p7 (hbf rfl)) hL hr (mC ⟨α,hA⟩ hi hb))
     exact mv hx' (ih lv _ (.code c1::k) T J L ρ a W (p7 (hbt rfl)) hL hr (mC ⟨α,hA⟩ hi hb))
    simp [VC]at hv
   simp [VC]at hv
  ·-- exit
   rename_i id
   split at hv
   ·rename_i k' hk
    obtain⟨J',h1,h2⟩:=jG (P:=C.P) (R:=R) hk hr
    exact zn (h2 a W (ih lv s k' T J' L ρ a W hv hL h1 hI))
   rename_i hun
   split at hv
   ·rename_i k' hk
    obtain⟨J',h1,h2⟩:=iw (P:=C.P) (R:=R) hk hun hr
    obtain⟨e,he,h3⟩:=ih lv s (.jump (.exit id)::k') T J' L ρ a W hv hL h1 hI
    cases he
    exact zn (h2 a W h3)
   simp [VC]at hv
  ·-- ret
   split at hv
   ·rename_i k' hk
    obtain⟨J',h1,h2⟩:=rP (P:=C.P) (R:=R) hk hr
    exact CJ (h2 a W (ih lv s k' T J' L ρ a W hv hL h1 hI))
   split at hv
   ·rename_i k' hk
    obtain⟨J',h1,h2⟩:=jA (P:=C.P) (R:=R) hk hr
    obtain⟨e,he,h3⟩:=ih lv s (.jump .ret::k') T J' L ρ a W hv hL h1 hI
    cases he
    exact CJ (h2 a W h3)
   simp [VC]at hv
  ·-- a range over a function
   rename_i g ps' assign body
   split at hv
   ·rename_i gf cap hg hpl
    split at hv
    ·rename_i fn hfn hen
     split at hv
     ·rename_i c hbody
      split at hv
      ·rename_i hw
       simp only [Bool.and_eq_true,decide_eq_true_eq]at hw hen
       obtain⟨⟨hw1,hw2⟩,hw3⟩:=hw
       obtain⟨α,hA⟩:=hI
       have hge:=ox hA.good hA.fm hg
       have hrn:=jD (T:=T) hpl
       show jd (jM k T) C.P _ _ a W
       rw [hrn]
       refine Fh (gf:=gf) (lb:=(ah ρ α cap).toArray) (by rw [hge];simp [V.den,ah]) (fun args w=>de hen.1 _ _) ?_
       intro r q3 q4 q5 q6 q7 q8 q9
       refine cY hfn hbody ?_
       have hfree:=eM hw3
       obtain⟨α',h1,h2,hB⟩:=(hA.room 1).GL (nm:=s.hp.length) (b:=bH) hfree rfl (W':=W) ⟨W.heap.size+1,undef,[]⟩ fun α' g1 g2 g3 g4=>⟨by rw [gA (k:=0) hfree.1 rfl,g4];exact(hA.room 1).st,trivial⟩
       have hden:ah ρ α' cap=ah ρ α cap:=ez (hp:=s.ln) (fun n hn=>h2 n (Av hn)) (List.prefix_refl _) cap (by rw [← hA.good.len];exact hw2)
       have hlvn:SX.lv ((s.room 1).ln.set s.hp.length (some bH)) s.hp.length=true:=qf hfree
       have hmono:∀ n,SX.lv s.ln n=true→SX.lv ((s.room 1).ln.set s.hp.length (some bH)) n=true:=fun n hn=>Aw (Av hn)
       have hI':Inv w0 ps (⟨a.tmps,a.defers,some (W.heap.size+1,r)⟩::T) ρ { (s.room 1).make s.hp.length bH with fr:=(.y s.hp.length::cap).map some++List.replicate (fn.ntmps-(.y s.hp.length::cap:List V).length) (some (.k undef)),stk:=s.fr::s.stk,lps:=(s.hp.length,.ready)::s.lps,cur:=gf }
        { tmps:=(#[Value.func (.yield (W.heap.size+1)) #[] #[]]++(ah ρ α cap).toArray)++Array.replicate (fn.ntmps-(#[Value.func (.yield (W.heap.size+1)) #[] #[]]++(ah ρ α cap).toArray).size) undef,defers:=[] } (AN W r):=by
        refine⟨α',⟨nofun,(fC (c:=⟨a.tmps,a.defers,some (W.heap.size+1,r)⟩) rfl).2 ⟨hA.defers.1,⟨hlvn,by rw [h1],q3,q4,q5⟩,hB.defers.2⟩⟩,⟨hA.good.len,hA.good.fit,hA.good.kn⟩,⟨fun v hv'=>?_,fun f hf=>?_,hB.wf.hp,hB.wf.ln⟩,⟨by simp [aq];omega,fun d v hd=>?_⟩,⟨hB.fm,hB.lO⟩,?_,hB.rows,hB.lens⟩
        ·rcases List.mem_append.1 hv' with h|h
         ·obtain⟨u,hu,e⟩:=List.mem_map.1 h
          obtain rfl:u=v:=af e
          rcases List.mem_cons.1 hu with rfl|hu
          ·exact hlvn
          exact V.eP hmono (Nat.le_of_eq hA.good.len) u (dF hw2 u hu)
         ·have:=List.eq_of_mem_replicate h
          cases this
          rfl
        ·rcases List.mem_cons.1 hf with rfl|hf
         ·exact hB.wf.fr
         exact hB.wf.stk f hf
        ·rw [Array.getElem?_append]
         have hl1:(#[Value.func (.yield (W.heap.size+1)) #[] #[]]++(ah ρ α cap).toArray).size=(V.y s.hp.length::cap).length:=by simp [aq,Nat.add_comm]
         rw [hl1]
         by_cases hlt:d<(V.y s.hp.length::cap).length
         ·rw [List.getElem?_append_left (af hlt),List.getElem?_map,List.getElem?_eq_getElem hlt]at hd
          simp only [Option.map_some,Option.some.injEq]at hd
          rw [if_pos hlt]
          have e2:(#[Value.func (.yield (W.heap.size+1)) #[] #[]]++(ah ρ α cap).toArray)=(ah ρ α' (.y s.hp.length::cap)).toArray:=by
           apply Array.ext'
           simp [ah,V.den,h1,hden]
          rw [e2]
          simpa using dC (ρ:=ρ) (α:=α') (l:=.y s.hp.length::cap) (by rw [List.getElem?_eq_getElem hlt,hd])
         rw [List.getElem?_append_right (af hlt),List.getElem?_replicate]at hd
         rw [if_neg hlt,Array.getElem?_replicate]
         simp only [List.length_map]at hd
         split at hd
         ·rename_i h9
          rw [if_pos h9]
          cases hd
          rfl
         cases hd
        have hst:=(hB.st.NL (.deferred (some []))).NL (.loop r)
        have e3:dP { tmps:=(#[Value.func (.yield (W.heap.size+1)) #[] #[]]++(ah ρ α cap).toArray)++Array.replicate (fn.ntmps-(#[Value.func (.yield (W.heap.size+1)) #[] #[]]++(ah ρ α cap).toArray).size) undef,defers:=[] } { (s.room 1).make s.hp.length bH with fr:=(.y s.hp.length::cap).map some++List.replicate (fn.ntmps-(.y s.hp.length::cap:List V).length) (some (.k undef)),stk:=s.fr::s.stk,lps:=(s.hp.length,.ready)::s.lps,cur:=gf } (⟨a.tmps,a.defers,some (W.heap.size+1,r)⟩::T)=⟨W.heap.size+1,.loop r⟩::⟨W.heap.size,.deferred (some [])⟩::dP a s T:=by
         unfold dP
         rw [dr rfl]
         simp only [LS.st,LS.pe]
         rw [oL q3 q4,q9]
         rfl
        rw [e3]
        have e4:(W.alloc (.deferred (some []))).heap.size=W.heap.size+1:=ai
        rw [e4]at hst
        exact hst
       have h:=ih lv _ (.code c::.endl fn s.cur ps' assign body::k) (⟨a.tmps,a.defers,some (W.heap.size+1,r)⟩::T) J L ρ _ _ hv hL ⟨⟨_,_,rfl,q6,q7,q8⟩,hrn,hr⟩ hI'
       have h:jd none C.P c (jk C.P R (.endl fn s.cur ps' assign body::k) (⟨a.tmps,a.defers,some (W.heap.size+1,r)⟩::T) J) _ _:=h
       have e5:yj r.defers { tmps:=(TF.mk a.tmps a.defers (some (W.heap.size+1,r))).t,defers:=(TF.mk a.tmps a.defers (some (W.heap.size+1,r))).ds }=yj W.heap.size a:=by rw [q9]
       refine lA h fun e a' w' hq=>?_
       cases e with
       | normal =>
        obtain⟨w2,v,t1,t2,l,r',v',st,pe,t3,t4,t5,t6,t7⟩:=hq
        cases t3
        rw [e5]at t7
        exact⟨w2,v,t1,t2,v',st,pe,t4,t5,t6,t7⟩
       | ret =>
        obtain⟨w2,v,t1,t2,l,r',v',st,pe,t3,t4,t5,t6,t7⟩:=hq
        cases t3
        rw [e5]at t7
        exact⟨w2,v,t1,t2,v',st,pe,t4,t5,t6,t7⟩
       | exit id=>exact hq
       | goto t=>exact hq
       | panic c=>exact hq
       | outgrown=>exact hq
      simp [VC]at hv
     simp [VC]at hv
    simp [VC]at hv
   simp [VC]at hv
  ·-- loop
   rename_i c
   split at hv
   ·exact pV _ (ih lv s (.rounds c G.rounds::k) T J L ρ a W hv hL hr hI)
   rename_i an _
   refine eo hps an.pos s ρ _ hv hI fun s ρ' hv hρ hI=>?_
   replace hr:=hr.mono hρ (List.prefix_refl L)
   clear hρ
   split at hv
   ·rename_i vals hvals
    split at hv
    ·rename_i hc
     simp only [Bool.and_eq_true]at hc
     simp only [VC]at hv
     obtain⟨α,hA⟩:=hI
     obtain⟨hf,hfit⟩:=tV (an:=an) (ws:=written c) hA (List.prefix_refl _) hA.good hA.wf (xf.refl _ _ _ hA.live hA.defers.2.ok) hvals hc.2
     rcases hv with ⟨I,μ,h0,hround⟩|⟨hcw,I,μ,h0,hround⟩
     ·refine iJ (γ:=List Value) (fun xs a W=>I xs∧Sh.dL (an.pos.map fun e=>e.2.sh) xs=true∧Inv w0 ps T (ρ'++xs) (dV an (written c) s) a W) μ (ah ρ' α vals) ⟨h0 α,hfit,hf⟩ ?_
      intro xs a' W' ⟨hIx,hfx,hInv⟩
      exact ih (lv+1) (dV an (written c) s) (.code c::.again lv an (written c) s::k) T
       ((fun a' w'=>∃ g',(I g'∧Sh.dL (an.pos.map fun e=>e.2.sh) g'=true∧Inv w0 ps T (ρ'++g') (dV an (written c) s) a' w')∧μ g'<μ xs)::J)
       (L++[fun(_:Cx) (ys:List Value)=>I ys∧μ ys<μ xs]) (ρ'++xs) a' W' (hround xs hfx hIx) (by simp [hL])
       ⟨⟨ρ',(fun(_:Cx) (ys:List Value)=>I ys∧μ ys<μ xs),ps,fun _ h=>h,by rw [← hL];simp,⟨xs,rfl⟩,hA.good,hA.wf,hA.live,hA.defers.2.ok,fun C' ps' ys a2 W2 _ hsub hys hyf hyI=>⟨ys,⟨hys.1,hyf,hyI.sub hsub⟩,hys.2⟩⟩,hr.mono ⟨xs,rfl⟩ ⟨_,rfl⟩⟩ hInv
     obtain⟨N0,hsub0,hI0⟩:=h0 α
     have hf':Inv w0 (Kf (C.plus N0)::NF (C.plus N0)::ps) T (ρ'++ah ρ' α vals) (dV an (written c) s) a W:=by
      obtain⟨α2,hA2⟩:=hf
      exact⟨α2,hA2.plus hps fun W' hW y hy=>hps.Ca hA2 W' hW y (hsub0 y hy)⟩
     refine iJ (γ:=List Value×List Arg) (fun g a W=>I g.1 g.2∧Sh.dL (an.pos.map fun e=>e.2.sh) g.1=true∧Inv w0 (Kf (C.plus g.2)::NF (C.plus g.2)::ps) T (ρ'++g.1) (dV an (written c) s) a W) (fun g=>μ g.1) (ah ρ' α vals,N0) ⟨hI0,hfit,hf'⟩ ?_
     intro ⟨xs,N⟩ a' W' ⟨hIx,hfx,hInv⟩
     exact hN hcw N _ w0 T0 R G (lv+1) (dV an (written c) s) (.code c::.again lv an (written c) s::k) T
      ((fun a' w'=>∃ g':List Value×List Arg,(I g'.1 g'.2∧Sh.dL (an.pos.map fun e=>e.2.sh) g'.1=true∧Inv w0 (Kf (C.plus g'.2)::NF (C.plus g'.2)::ps) T (ρ'++g'.1) (dV an (written c) s) a' w')∧μ g'.1<μ xs)::J)
      (L++[fun(C':Cx) (ys:List Value)=>C'.nb=C.nb∧∃ N':List Arg,(∀ y∈N',y∈C'.N)∧I ys N'∧μ ys<μ xs]) (ρ'++xs) a' W' hk12 (hps.plus N) (by rw [jE C];exact hround xs N hfx hIx) (by simp [hL])
      ⟨⟨ρ',(fun(C':Cx) (ys:List Value)=>C'.nb=C.nb∧∃ N':List Arg,(∀ y∈N',y∈C'.N)∧I ys N'∧μ ys<μ xs),ps,(fun p hp=>List.mem_cons_of_mem _ (List.mem_cons_of_mem _ hp)),by rw [← hL];simp,⟨xs,rfl⟩,hA.good,hA.wf,hA.live,hA.defers.2.ok,fun C' ps' ys a2 W2 hc' hsub ⟨hnb,N',hN',hys,hμ⟩ hyf hyI=>⟨(ys,N'),⟨hys,hyf,by
       obtain⟨α3,h3⟩:=hyI
       refine⟨α3,(h3.more fun p hp=>.inl (hsub p hp)).plus hps fun W3 hW3 y hy=>?_⟩
       have:=hc'.Ca h3 W3 hW3 y (hN' y hy)
       exact⟨this.1,by rw [← hnb];exact this.2⟩⟩,hμ⟩⟩,(hr.mono ⟨xs,rfl⟩ ⟨_,rfl⟩).Cq fun p hp=>List.mem_cons_of_mem _ (List.mem_cons_of_mem _ hp)⟩ hInv
    simp [VC]at hv
   simp [VC]at hv
  ·-- region
   rename_i id ops
   have:=ih lv s (.ops ops ops.toList::k) T J L ρ a W hv hL hr hI
   exact sP this
  ·-- a region that draws its order
   rename_i id ops
   split at hv
   ·-- a row is written no more
    rename_i n0 hz
    obtain⟨h12,b,sz,hn0,hbk⟩:=Jq hz
    obtain⟨α,hA⟩:=hI
    exact ih lv _ (.code (.region id ops true)::k) T J L ρ a W hv hL hr ⟨α,hA.cE (hk12 h12).1 hn0 hbk⟩
   split at hv
   ·rename_i hmix
    obtain⟨α,hA⟩:=hI
    refine JO (base:=s.hp.length) (s0:=s.room ops.size) (ρ0:=ρ) hC hps ih0 (by show 1≠12;decide) hmix ⟨α,hA.room _⟩ (fun s' ρ' h1 h2 a' W' h3=>?_) (fun s' ρ' l h1 h2=>by
     split at h1
     ·rename_i hnj
      exact⟨ig hnj,fun a' W' ⟨α',h3⟩=>ih lv _ (.ops ops l::k) T J L ρ' a' W' h1 hL (hr.mono h2 (List.prefix_refl _)) ⟨α',h3.trim _ _⟩⟩
     simp [VC]at h1) (4*ops.size+20) (s.room ops.size) [] ops.toList [] ρ ai rfl (List.prefix_refl _) hv ⟨hA.good.len,hA.good.fit,hA.good.kn⟩ rfl (fun i o d h=>by simp at h)
    obtain⟨α',h3⟩:=h3
    exact ih lv _ k T J L ρ' a' W' h1 hL (hr.mono h2 (List.prefix_refl _)) ⟨α',h3.trim _ _⟩
   simp [VC]at hv
  simp [VC]at hv
 ·-- no operation is left
  rename_i all k
  exact ih lv s k T J L ρ a W hv hL hr hI
 -- an operation
 rename_i all o rest k
 have hrest:∀ s' ρ' a' W',VC C w0 ps T0 R L ρ' (run C G n lv s' (.ops all rest::k))→ρ<+:ρ'→Inv w0 ps T ρ' s' a' W'→dJ (jM k T) C.P all (jk C.P R k T J) rest a' W':=fun s' ρ' a' W' h1 h2 h3=>ih lv s' (.ops all rest::k) T J L ρ' a' W' h1 hL (hr.mono h2 (List.prefix_refl _)) h3
 have hself:∀ s' ρ',VC C w0 ps T0 R L ρ' (run C G n lv s' (.ops all (o::rest)::k))→ρ<+:ρ'→Inv w0 ps T ρ' s' a W→dJ (jM k T) C.P all (jk C.P R k T J) (o::rest) a W:=fun s' ρ' h1 h2 h3=>ih lv s' (.ops all (o::rest)::k) T J L ρ' a W h1 hL (hr.mono h2 (List.prefix_refl _)) h3
 have hskip:VC C w0 ps T0 R L ρ (run C G n lv (s.put o.dst (.k undef)) (.ops all rest::k))→Region.wanted o (yielded all a.tmps)=false→dJ (jM k T) C.P all (jk C.P R k T J) (o::rest) a W:=fun h1 h2=>Fe h2 (hrest _ ρ _ _ h1 (List.prefix_refl _) (Ii hI _))
 dsimp only at hv
 show dJ (jM k T) C.P all (jk C.P R k T J) (o::rest) a W
 split at hv
 ·rename_i hg
  exact Ku hC hps hk12 hI (by simp [Region.wanted,hg]) hrest hself ih hN hL hr hv
 rename_i g want hg
 split at hv
 ·simp [VC]at hv
 rename_i d hd
 obtain⟨α,hA⟩:=hI
 split at hv
 ·rename_i u hl
  exact hskip hv (u6 hA hg hd hl)
 ·rename_i b hl
  have hwa:=oV hA hg hd hl
  split at hv
  ·rename_i hb
   exact Ku hC hps hk12 ⟨α,hA⟩ (hwa.trans hb) hrest hself ih hN hL hr hv
  rename_i hb
  exact hskip hv (hwa.trans (af hb))
 ·rename_i i p hl
  split at hv
  ·rename_i hi
   simp only [VC]at hv
   obtain⟨b,hb,hbt,hbf⟩:=hv
   cases b
   ·exact hself _ ρ (p7 (hbf rfl)) (List.prefix_refl _) (mC ⟨α,hA⟩ hi hb)
   exact hself _ ρ (p7 (hbt rfl)) (List.prefix_refl _) (mC ⟨α,hA⟩ hi hb)
  simp [VC]at hv
 simp [VC]at hv
theorem wA:∀ (n:Nat)(C:Cx)(ps:List (World→Prop)),C.Ok→kr C ps n
 | 0,_,_,_=>H2
 | n+1,C,ps,hC=>HX hC (wA n C ps hC) fun hw N ps'=>wA n (C.plus N) ps' (hC.plus hw N)
theorem rV(hC:C.Ok)(n:Nat):kr C ps n:=wA n C ps hC
end
end SX
namespace SX
theorem cD{C:Cx}(h:∀ s sz cells,¬ C.K s sz cells)(W:World):Kf C W:=fun s sz cells hk=>(h s sz cells hk).elim
theorem kJ{sh:List Sh}{ρ:List Value}(h:Sh.dL sh ρ=true):sh.length=ρ.length∧∀ (i:Nat)(s:Sh),sh[i]?=some s→s.fit (ρ.getD i undef)=true:=by
 refine⟨?_,fun i s hs=>?_⟩
 ·induction sh generalizing ρ with
  | nil=>cases ρ<;>simp [Sh.dL]at h ⊢
  | cons s l ih=>cases ρ with
   | nil=>simp [Sh.dL]at h
   | cons v r =>
    simp only [Sh.dL,Bool.and_eq_true]at h
    simp [ih h.2]
 obtain⟨v,h1,h2⟩:=p9 h hs
 rw [List.getD_eq_getElem?_getD,h1]
 exact h2
mutual
def Tree.eS:Tree→Tree
 | .df q a s t=>.df q a s t.eS
 | .br i p t e=>.br i p t.eS e.eS
 | .sp i p l=>.sp i p (oO l)
 | .ret v hp stk=>.ret v hp stk
 | .loop v s t=>.loop v s t.eS
 | .again l v=>.again l v
 | .bad n _=>.bad n []
def oO:List Tree→List Tree
 | []=>[]
 | t::l=>t.eS::oO l
end
theorem sd:∀ l:List Tree,(oO l).length=l.length
 | []=>rfl
 | _::l=>by simp [oO,sd l]
section
variable {w0:fB}{T0:List TF}{R:Ending→World→Prop}
mutual
theorem dZ:∀ (t:Tree){C:Cx}{ps:List (World→Prop)}(L:List (Cx→List Value→Prop))(ρ:List Value),VC C w0 ps T0 R L ρ t.eS→VC C w0 ps T0 R L ρ t
 | .df q a s t,C,ps,L,ρ,h=>by
  simp only [Tree.eS,VC]at h ⊢
  rcases h with ⟨v,h1,h2,h3⟩|⟨hc,Q,h1,h2⟩
  ·exact .inl ⟨v,h1,h2,dZ t _ _ h3⟩
  exact .inr ⟨hc,Q,h1,fun v N h3 h4=>dZ t _ _ (h2 v N h3 h4)⟩
 | .br i p t e,C,ps,L,ρ,h=>by
  simp only [Tree.eS,VC]at h ⊢
  obtain⟨b,h1,h2,h3⟩:=h
  exact⟨b,h1,fun hb=>dZ t _ _ (h2 hb),fun hb=>dZ e _ _ (h3 hb)⟩
 | .sp i p l,C,ps,L,ρ,h=>by
  simp only [Tree.eS,VC,sd]at h ⊢
  exact⟨h.1,tn l _ _ _ _ h.2⟩
 | .ret v hp stk,C,ps,L,ρ,h=>h
 | .loop v s t,C,ps,L,ρ,h=>by
  simp only [Tree.eS,VC]at h ⊢
  rcases h with ⟨I,μ,h1,h2⟩|⟨hc,I,μ,h1,h2⟩
  ·exact .inl ⟨I,μ,h1,fun xs h3 h4=>dZ t _ _ (h2 xs h3 h4)⟩
  exact .inr ⟨hc,I,μ,h1,fun xs N h3 h4=>dZ t _ _ (h2 xs N h3 h4)⟩
 | .again l v,C,ps,L,ρ,h=>h
 | .bad n o,C,ps,L,ρ,h=>by simp [Tree.eS,VC]at h
theorem tn:∀ (l:List Tree){C:Cx}{ps:List (World→Prop)}(L:List (Cx→List Value→Prop))(ρ:List Value)(u:Value)(j:Nat),Fq C w0 ps T0 R L ρ u j (oO l)→Fq C w0 ps T0 R L ρ u j l
 | [],C,ps,L,ρ,u,j,h=>by unfold Fq;trivial
 | t::l,C,ps,L,ρ,u,j,h=>by
  simp only [oO,Fq]at h ⊢
  exact⟨fun hu=>dZ t _ _ (h.1 hu),tn l _ _ _ _ h.2⟩
end
end
theorem b8{C:Cx}{G:kp}{R:Ending→World→Prop}{f:FuncId}{fn:Func}{body:Code}{args:List V}{sh:List Sh}{ρ:List Value}{w:World}{vals:Array Value}(n:Nat)(t:Tree)(hC:C.Ok)(hf:C.P.funcs[f]?=some fn)(hb:fn.body=some body)(ht:(run C G n 0 (door f fn args sh) [.code body,.top fn]).eS=t)
 (hd:qI fn args sh=true) (hfit:Sh.dL sh ρ=true) (hvals:(ah ρ (fun _=>default) args).toArray=vals) (hK:∀ W',bp [] w W'→Kf C W') (hv:VC C ⟨w,[],Af C,Bf C⟩ [Kf C] [] R [] ρ t) (hN:C.N=[]∧C.nb≤w.heap.size:=by exact⟨rfl,Nat.zero_le _⟩) (hla:C.la=true→Bf C C.nb:=by exact fun h=>nomatch (show false=true from h)):Calls C.P f vals w R:=by
 subst ht
 subst hvals
 replace hv:=dZ _ _ _ hv
 refine cY hf hb ?_
 simp only [qI,Bool.and_eq_true,decide_eq_true_eq]at hd
 obtain⟨hl,hg⟩:=kJ hfit
 have hI:Inv ⟨w,[],Af C,Bf C⟩ [Kf C] [] ρ (door f fn args sh) { tmps:=(ah ρ (fun _=>default) args).toArray++Array.replicate (fn.ntmps-(ah ρ (fun _=>default) args).toArray.size) undef,defers:=[] } w:=by
  refine⟨fun _=>default,⟨nofun,rfl⟩,⟨hl,hg,fun e he=>nomatch he⟩,⟨fun v hv'=>?_,fun f hf=>(nomatch hf),(fun b hb=>nomatch hb),(fun b hb=>nomatch hb)⟩,⟨by simp [door,aq],fun d v hd'=>?_⟩,trivial,?_,?_,?_⟩
  ·rcases List.mem_append.1 hv' with h|h
   ·obtain⟨u,hu,e⟩:=List.mem_map.1 h
    obtain rfl:u=v:=af e
    rw [← hl]
    exact dF hd.2 u hu
   ·have:=List.eq_of_mem_replicate h
    cases this
    rfl
  ·rw [Array.getElem?_append]
   simp only [List.size_toArray,aq]
   simp only [door]at hd'
   by_cases hlt:d<args.length
   ·rw [List.getElem?_append_left (af hlt),List.getElem?_map,List.getElem?_eq_getElem hlt]at hd'
    simp only [Option.map_some,Option.some.injEq]at hd'
    rw [if_pos hlt]
    simpa using dC (ρ:=ρ) (α:=fun _=>default) (by rw [List.getElem?_eq_getElem hlt,hd'])
   rw [List.getElem?_append_right (af hlt),List.getElem?_replicate]at hd'
   rw [if_neg hlt,Array.getElem?_replicate]
   simp only [List.length_map]at hd'
   split at hd'
   ·rename_i h9
    rw [if_pos h9]
    cases hd'
    rfl
   cases hd'
  ·exact((⟨⟨rfl,rfl,rfl,Nat.le_refl _,fun _ _ _=>rfl⟩,(fun _ h=>nomatch h),(fun _ h=>nomatch h),(by simp [bk]),(fun _ h=>nomatch h)⟩:St ⟨w,[],Af C,Bf C⟩ [] [] [] w)).Kw hK
  ·exact fun n b h=>nomatch h
  exact fun n b h=>nomatch h
 have:=rV hC n ⟨w,[],Af C,Bf C⟩ [] R G 0 (door f fn args sh) [.code body,.top fn] [] [] [] ρ _ w (fun _=>⟨rfl,hla⟩) ⟨List.mem_cons_self ..,fun _ h=>h,fun _ h=>h,hN.2,.inl hN.1⟩ hv rfl rfl hI
 exact this
theorem sY{C:Cx}{G:kp}{R:Ending→World→Prop}{f:FuncId}{fn:Func}{body:Code}{args:List V}{sh:List Sh}{ρ:List Value}{w:World}{vals:Array Value}{bs:List Nat}{bl:List ak}(n:Nat)(t:Tree)(hC:C.Ok)(hf:C.P.funcs[f]?=some fn)(hb:fn.body=some body)
 (ht:(run C G n 0 { fr:=args.map some++List.replicate (fn.ntmps-args.length) (some (.k undef)),stk:=[(List.range bl.length).map fun n=>some (.p n 0)],hp:=bl.map some,ln:=bl.map some,sh:=sh,kn:=[],lps:=[],cur:=f } [.code body,.top fn]).eS=t)
 (hd:(decide (args.length≤fn.ntmps) && dw (bl.map some) sh.length args && bl.all fun b=>dw [] sh.length b.c && decide (b.k=.cells))=true) (hfit:Sh.dL sh ρ=true) (hvals:(ah ρ (fun n=>⟨bs.getD n 0,undef,[]⟩) args).toArray=vals) (hK:∀ W',bp bs w W'→Kf C W')
 (hnd:bs.Nodup) (hl:bs.length=bl.length) (hbl:∀ (i b:Nat) (B:ak),bs[i]?=some b→bl[i]?=some B→w.heap[b]?=some (.cells (ah ρ (fun _=>default) B.c).toArray B.t (0,0)))
 (h12:G.eO≠12) (hv:VC C ⟨w,bs,Af C,Bf C⟩ [Kf C] [⟨(bs.map fun b=>Value.pointer (some ⟨b,0,none⟩)).toArray,[],none⟩] R [] ρ t) (hN:C.N=[]∧C.nb≤w.heap.size:=by exact⟨rfl,Nat.zero_le _⟩):Calls C.P f vals w R:=by
 subst ht
 subst hvals
 replace hv:=dZ _ _ _ hv
 refine cY hf hb ?_
 simp only [Bool.and_eq_true,decide_eq_true_eq]at hd
 obtain⟨⟨hle,hwa⟩,hwb⟩:=hd
 obtain⟨hlg,hg⟩:=kJ hfit
 have hb1:∀ B∈bl,dw [] ρ.length B.c=true∧B.k=.cells:=fun B hB=>by
  have:=List.all_eq_true.1 hwb B hB
  simp only [Bool.and_eq_true,decide_eq_true_eq]at this
  rw [← hlg];exact this
 have hbd:∀ B∈bl,∀ α α',ah ρ α B.c=ah ρ α' B.c:=fun B hB α α'=>ez (hp:=[]) (fun n h=>by simp [SX.lv]at h) (List.prefix_refl _) B.c (hb1 B hB).1
 have hat:∀ (i:Nat) (B:ak),(bl.map some)[i]?=some (some B)→bl[i]?=some B:=fun i B h=>af h
 have hgd:∀ i,i<bl.length→bs[i]?=some (bs.getD i 0):=fun i hi=>by
  rw [List.getD_eq_getElem?_getD,List.getElem?_eq_getElem ab];rfl
 have hch:∀ (i:Nat) (B:ak),bl[i]?=some B→B.ch ρ (fun n=>⟨bs.getD n 0,undef,[]⟩) i=some ⟨bs.getD i 0,(ah ρ (fun n=>⟨bs.getD n 0,undef,[]⟩) B.c).toArray,B.t⟩:=fun i B h=>by simp only [ak.ch,(hb1 B (List.mem_of_getElem? h)).2]
 have hlvb:∀ i,i<bl.length→SX.lv (bl.map some) i=true:=fun i hi=>cX.2 ⟨bl[i],by simp [hi]⟩
 have hids:∀ {l:List ak} {k:Nat} {α:Nat→AV},(∀ (i:Nat) (B:ak),l[i]?=some B→B.k=.cells)→(aU ρ α k (l.map some)).map (·.id)=(List.range' k l.length).map fun i=>(α i).b:=by
  intro l
  induction l with
  | nil=>intro k α _;simp [aU]
  | cons B l ih =>
   intro k α hk
   simp only [List.map_cons,aU,ak.ch,hk 0 B rfl,Option.toList_some,List.cons_append,List.nil_append,List.length_cons,List.range'_succ]
   rw [ih fun i B' h=>hk (i+1) B' (af h)]
 have hI:Inv ⟨w,bs,Af C,Bf C⟩ [Kf C] [⟨(bs.map fun b=>Value.pointer (some ⟨b,0,none⟩)).toArray,[],none⟩] ρ { fr:=args.map some++List.replicate (fn.ntmps-args.length) (some (.k undef)),stk:=[(List.range bl.length).map fun n=>some (.p n 0)],hp:=bl.map some,ln:=bl.map some,sh:=sh,kn:=[],lps:=[],cur:=f } { tmps:=(ah ρ (fun n=>⟨bs.getD n 0,undef,[]⟩) args).toArray++Array.replicate (fn.ntmps-(ah ρ (fun n=>⟨bs.getD n 0,undef,[]⟩) args).toArray.size) undef,defers:=[] } w:=by
  refine⟨fun n=>⟨bs.getD n 0,undef,[]⟩,⟨nofun,nofun,rfl⟩,⟨hlg,hg,fun e he=>nomatch he⟩,⟨fun v hv'=>?_,fun fr hfr=>?_,fun b hb=>?_,fun b hb=>?_⟩,⟨by simp [aq],fun d v hd'=>?_⟩,⟨⟨by simp [hl],fun d v hd'=>?_⟩,trivial⟩,?_,?_,?_⟩
  ·rcases List.mem_append.1 hv' with h|h
   ·obtain⟨u,hu,e⟩:=List.mem_map.1 h
    obtain rfl:u=v:=af e
    rw [← hlg]
    exact dF hwa u hu
   ·have:=List.eq_of_mem_replicate h
    cases this
    rfl
  ·obtain rfl:=List.mem_singleton.1 hfr
   intro v hv'
   obtain⟨i,hi,e⟩:=List.mem_map.1 hv'
   cases e
   exact hlvb i (List.mem_range.1 hi)
  ·obtain⟨B,hB,e⟩:=List.mem_map.1 hb
   cases e
   exact bS (fun n h=>by simp [SX.lv]at h) (Nat.le_refl _) _ (hb1 _ hB).1
  ·obtain⟨B,hB,e⟩:=List.mem_map.1 hb
   cases e
   exact bS (fun n h=>by simp [SX.lv]at h) (Nat.le_refl _) _ (hb1 _ hB).1
  ·rw [Array.getElem?_append]
   simp only [List.size_toArray,aq]
   simp only at hd'
   by_cases hlt:d<args.length
   ·rw [List.getElem?_append_left (af hlt),List.getElem?_map,List.getElem?_eq_getElem hlt]at hd'
    simp only [Option.map_some,Option.some.injEq]at hd'
    rw [if_pos hlt]
    simpa using dC (ρ:=ρ) (α:=fun n=>⟨bs.getD n 0,undef,[]⟩) (by rw [List.getElem?_eq_getElem hlt,hd'])
   rw [List.getElem?_append_right (af hlt),List.getElem?_replicate]at hd'
   rw [if_neg hlt,Array.getElem?_replicate]
   simp only [List.length_map]at hd'
   split at hd'
   ·rename_i h9
    rw [if_pos h9]
    cases hd'
    rfl
   cases hd'
  ·simp only [List.getElem?_map,Option.map_eq_some_iff]at hd'
   obtain⟨i,hi,e⟩:=hd'
   cases e
   have hil:d<bl.length:=by have:=(List.getElem?_eq_some_iff.1 hi).1;simpa using this
   obtain rfl:d=i:=by simpa [hil]using hi
   simp only [List.getElem?_toArray,List.getElem?_map,hgd d hil,Option.map_some,V.den]
  ·refine⟨⟨rfl,rfl,rfl,Nat.le_refl _,fun _ _ _=>rfl⟩,fun e he=>?_,(fun _ h=>nomatch h),?_,fun p hp W' hW=>?_⟩
   ·obtain⟨i,B,h1,h2⟩:=iR he
    rw [Nat.zero_add]at h2
    have hB:=hat i B h1
    rw [hch i B hB]at h2
    cases h2
    have hil:=(List.getElem?_eq_some_iff.1 hB).1
    refine⟨.inr (List.mem_of_getElem? (hgd i hil)),?_⟩
    have:=hbl i _ B (hgd i hil) hB
    rw [hbd B (List.mem_of_getElem? hB) _ (fun _=>default)]
    exact this
   ·show((aU ρ (fun n=>⟨bs.getD n 0,undef,[]⟩) 0 (bl.map some)).map Ch.id++[]).Nodup
    rw [List.append_nil,hids fun i B h=>(hb1 B (List.mem_of_getElem? h)).2]
    have:(List.range' 0 bl.length).map (fun i=>bs.getD i 0)=bs:=by
     apply List.ext_getElem?
     intro i
     by_cases hi:i<bl.length
     ·rw [List.getElem?_map,List.getElem?_range' hi,hgd i hi];simp
     rw [List.getElem?_eq_none (af hi),List.getElem?_eq_none ab]
    rw [this]
    exact hnd
   have hmu:bk (aU ρ (fun n=>⟨bs.getD n 0,undef,[]⟩) 0 (bl.map some)) []=bs:=by
    show(aU ρ (fun n=>⟨bs.getD n 0,undef,[]⟩) 0 (bl.map some)).map Ch.id++[]=bs
    rw [List.append_nil,hids fun i B h=>(hb1 B (List.mem_of_getElem? h)).2]
    apply List.ext_getElem?
    intro i
    by_cases hi:i<bl.length
    ·rw [List.getElem?_map,List.getElem?_range' hi,hgd i hi];simp
    rw [List.getElem?_eq_none (af hi),List.getElem?_eq_none ab]
   have hp:p=Kf C:=by
    rcases List.mem_append.1 hp with hp|hp
    ·obtain⟨i,B,h1,h2⟩:=cL.1 hp
     rw [ak.kR (by simp [ak.own,(hb1 B (List.mem_of_getElem? (hat i B h1))).2])]at h2
     cases h2
    simpa using hp
   subst hp
   exact hK W' (by rw [← hmu];exact hW)
  ·intro i B h
   have hB:=hat i B h
   exact⟨hlvb i (List.getElem?_eq_some_iff.1 hB).1,by simp only [ak.bB,(hb1 B (List.mem_of_getElem? hB)).2]⟩
  intro i B h
  have hB:=hat i B h
  simp only [ak.kw,(hb1 B (List.mem_of_getElem? hB)).2]
 have:=rV hC n ⟨w,bs,Af C,Bf C⟩ [⟨(bs.map fun b=>Value.pointer (some ⟨b,0,none⟩)).toArray,[],none⟩] R G 0 _ [.code body,.top fn] _ [] [] ρ _ w (fun h=>absurd h h12) ⟨List.mem_cons_self ..,fun _ h=>h,fun _ h=>h,hN.2,.inl hN.1⟩ hv rfl rfl hI
 exact this
def Qw(w:World)(u:Value)(e:Ending)(w':World):Prop:=e=.returned u∧Below w.heap.size w w'
theorem St.ret{w:World}{rt:World→Prop}{rf:Nat→Prop}{hs:List Ch}{os:List Ow}{ps:List (World→Prop)}{W:World}{u v:Value}(h:St ⟨w,[],rt,rf⟩ hs os ps W)(hu:v=u):Qw w u (.returned v) W:=⟨by rw [hu],h.below⟩
end SX
theorem wrap_i64{x:Int}(h1 : -9223372036854775808≤x)(h2:x≤9223372036854775807):IntKind.i64.wrap x=x:=by
 rw [IntKind.wrap_i64];omega
theorem wrap_u64{x:Int}(h1:0≤x)(h2:x≤18446744073709551615):IntKind.u64.wrap x=x:=by
 simp only [IntKind.wrap,IntKind.signed,IntKind.bits];simp;omega
namespace SX
section
variable {C:Cx}{w0:fB}{ps:List (World→Prop)}{T0:List TF}{R:Ending→World→Prop}{L:List (Cx→List Value→Prop)}{ρ:List Value}
theorem aO{q:cZ}{args:List V}{sh:Sh}{t:Tree}(v:Value)(h:∀ α,q.rel C ρ α args v)(hf:sh.fit v=true)(k:VC C w0 ps T0 R L (ρ++[v]) t):VC C w0 ps T0 R L ρ (.df q args sh t):=by
 unfold VC;exact .inl ⟨v,h,hf,k⟩
theorem MB{i:Nat}{p:List Nat}{t e:Tree}(b:Bool)(h:p.foldl comp (ρ.getD i undef)=.bool b)(ht:b=true→VC C w0 ps T0 R L ρ t)(he:b=false→VC C w0 ps T0 R L ρ e):VC C w0 ps T0 R L ρ (.br i p t e):=by
 unfold VC;exact⟨b,h,ht,he⟩
theorem aK{v:V}{hp:List (Option ak)}{stk:List (List (Option V))}(h:∀ α W,xc ρ α stk T0→(∀ (n:Nat)(b:ak),hp[n]?=some (some b)→b.bB ρ α n)→St w0 (aU ρ α 0 hp) [] (gZ w0 ρ α 0 hp++ps) W→R (.returned (v.den ρ α)) W):VC C w0 ps T0 R L ρ (.ret v hp stk):=by
 unfold VC;exact h
theorem ck{vals:List V}{shs:List Sh}{t:Tree}(I:List Value→Prop)(μ:List Value→Nat)(h0:∀ α,I (ah ρ α vals))(h:∀ xs,Sh.dL shs xs=true→I xs→VC C w0 ps T0 R (L++[fun(_:Cx)(ys:List Value)=>I ys∧μ ys<μ xs]) (ρ++xs) t):VC C w0 ps T0 R L ρ (.loop vals shs t):=by
 unfold VC;exact .inl ⟨I,μ,h0,h⟩
theorem mZ{vals:List V}{shs:List Sh}{t:Tree}(I:List Value→List Arg→Prop)(μ:List Value→Nat)(hc:∀ f,C.cw f=none)(h0:∀ α,∃ N,(∀ y∈N,y∈C.N)∧I (ah ρ α vals) N)(h:∀ xs N,Sh.dL shs xs=true→I xs N→VC (C.plus N) w0 (Kf (C.plus N)::NF (C.plus N)::ps) T0 R (L++[fun(C':Cx)(ys:List Value)=>C'.nb=C.nb∧∃ N':List Arg,(∀ y∈N',y∈C'.N)∧I ys N'∧μ ys<μ xs]) (ρ++xs) t):VC C w0 ps T0 R L ρ (.loop vals shs t):=by
 unfold VC;exact .inr ⟨hc,I,μ,h0,h⟩
theorem dM{q:cZ}{args:List V}{sh:Sh}{t:Tree}(Q:Value→List Arg→Prop)(hc:∀ f,C.cw f=none)(h:∀ α,q.L0 C ρ α args Q)(k:∀ v N,sh.fit v=true→Q v N→VC (C.plus (N++C.N)) w0 (Kf (C.plus (N++C.N))::NF (C.plus (N++C.N))::ps) T0 R L (ρ++[v]) t):VC C w0 ps T0 R L ρ (.df q args sh t):=by
 unfold VC;exact .inr ⟨hc,Q,h,k⟩
theorem bO{l:Nat}{vals:List V}(h:∀ α,(L.getD l fun(_:Cx)(_:List Value)=>False) C (ah ρ α vals)):VC C w0 ps T0 R L ρ (.again l vals):=by
 unfold VC;exact h
theorem QB{q:cZ}{args:List V}{sh:Sh}{t:Tree}(v:Value)(k:VC C w0 ps T0 R L (ρ++[v]) t)(h:∀ α,q.rel C ρ α args v:=by intro α;show _=_;kernel_rfl) (hf:sh.fit v=true:=by kernel_rfl):VC C w0 ps T0 R L ρ (.df q args sh t):=aO v h hf k
theorem QC{q:cZ}{args:List V}{sh:Sh}{t:Tree}(v:Value)(h:∀ α,q.rel C ρ α args v)(k:VC C w0 ps T0 R L (ρ++[v]) t)(hf:sh.fit v=true:=by kernel_rfl):VC C w0 ps T0 R L ρ (.df q args sh t):=aO v h hf k
theorem QD{i:Nat}{p:List Nat}{t e:Tree}(b:Bool)(ht:b=true→VC C w0 ps T0 R L ρ t)(he:b=false→VC C w0 ps T0 R L ρ e)(h:p.foldl comp (ρ.getD i undef)=.bool b:=by kernel_rfl):VC C w0 ps T0 R L ρ (.br i p t e):=MB b h ht he
theorem Fz{i:Nat}{p:List Nat}{l:List Tree}(j:Nat)(hj:j<l.length)(h:p.foldl comp (ρ.getD i undef)=.int .i64 j)(ht:∀ t,l[j]?=some t→VC C w0 ps T0 R L ρ t):VC C w0 ps T0 R L ρ (.sp i p l):=by
 unfold VC
 refine⟨⟨j,hj,h⟩,?_⟩
 rw [h]
 have key:∀ (l:List Tree) (k:Nat),(∀ t m,l[m]?=some t→k+m=j→VC C w0 ps T0 R L ρ t)→Fq C w0 ps T0 R L ρ (.int .i64 (j:Int)) k l:=by
  intro l
  induction l with
  | nil=>intro k _;unfold Fq;trivial
  | cons t l ih =>
   intro k hk
   unfold Fq
   refine⟨fun e=>hk t 0 rfl ?_,ih (k+1) fun t m hm he=>hk t (m+1) (af hm) ab⟩
   injection e with _ e
   omega
 exact key l 0 fun t m hm he=>ht t (by rw [← hm];congr 1;omega)
end
theorem aL{β:Type}{f:β→List Value}{sz:Nat}(hf:∀ a,(f a).length=sz):∀ l:List β,(l.flatMap f).length=l.length*sz
 | []=>ai
 | a::l=>by simp only [List.flatMap_cons,List.length_append,List.length_cons,aL hf l,hf];rw [Nat.add_mul];omega
theorem fZ{β:Type}{f:β→List Value}{sz:Nat}(hf:∀ a,(f a).length=sz):∀ (l:List β)(j:Nat),(l.flatMap f).drop (j*sz)=(l.drop j).flatMap f
 | l,0=>ai
 | [],j+1=>ai
 | a::l,j+1=>by
  rw [List.flatMap_cons,show(j+1)*sz=(f a).length+j*sz by rw [hf,Nat.add_mul];omega,List.drop_append,List.drop_of_length_le ab,List.nil_append,Nat.add_sub_cancel_left,List.drop_succ_cons,← fZ hf l j]
theorem jv{β:Type}{f:β→List Value}{sz:Nat}(hf:∀ a,(f a).length=sz):∀ (l:List β)(j:Nat),(l.flatMap f).take (j*sz)=(l.take j).flatMap f
 | l,0=>ai
 | [],j+1=>ai
 | a::l,j+1=>by
  rw [List.flatMap_cons,show(j+1)*sz=(f a).length+j*sz by rw [hf,Nat.add_mul];omega,List.take_length_add_append,List.take_succ_cons,List.flatMap_cons,← jv hf l j]
theorem hJ{β:Type}{f:β→List Value}{sz:Nat}(hf:∀ a,(f a).length=sz){l:List β}{j:Nat}{z:β}(hz:l[j]?=some z):(l.flatMap f).drop (j*sz)=f z++(l.drop (j+1)).flatMap f:=by
 rw [fZ hf,List.drop_eq_getElem_cons (List.getElem?_eq_some_iff.1 hz).1,List.flatMap_cons,(List.getElem?_eq_some_iff.1 hz).2]
theorem cq{C:Cx}{ρ:List Value}{α:Nat→AV}{s i:V}{A:Option Addr}{n c j:Nat}(hA:0<n→A.isSome=true)(hs:s.den ρ α=.slice A n c)(hi:i.den ρ α=.int .i64 (j:Int))(hj:j<n):cZ.rel C ρ α .bnd [s,i] (.bool true):=by
 obtain⟨ad,rfl⟩:=Option.isSome_iff_exists.1 (hA ab)
 refine⟨?_,rfl⟩
 rw [hs,hi]
 exact⟨ab,ab⟩
theorem im{C:Cx}{ρ:List Value}{α:Nat→AV}{s i:V}{A:Option Addr}{n c j sz:Nat}{β:Type}{f:β→List Value}{l:List β}{z:β}(hf:∀ a,(f a).length=sz)(hA:0<n→A.isSome=true)(hs:s.den ρ α=.slice A n c)(hi:i.den ρ α=.int .i64 (j:Int))(hj:j<n)(hK:C.K (.slice A n c) sz (l.flatMap f))(hz:l[j]?=some z):cZ.rel C ρ α (.elems sz 0 sz) [s,i] (.agg (f z).toArray):=by
 refine⟨(cq (C:=C) hA hs hi hj).1,l.flatMap f,by rw [hs];exact hK,?_,?_⟩
 ·rw [hi,aL hf]
  have h1:(j+1)*sz≤l.length*sz:=Nat.mul_le_mul_right _ (List.getElem?_eq_some_iff.1 hz).1
  rw [Nat.add_mul]at h1
  show(j:Int).toNat*sz+0+sz≤_
  rw [Int.toNat_natCast];omega
 rw [hi]
 show _=Value.agg (((l.flatMap f).drop ((j:Int).toNat*sz+0)).take sz).toArray
 rw [Int.toNat_natCast,Nat.add_zero,hJ hf hz,List.take_left' (hf z)]
theorem cS{C:Cx}{ρ:List Value}{α:Nat→AV}{s i:V}{A:Option Addr}{n c j sz o:Nat}{β:Type}{f:β→List Value}{l:List β}{z:β}{v:Value}(hf:∀ a,(f a).length=sz)(hA:0<n→A.isSome=true)(hs:s.den ρ α=.slice A n c)(hi:i.den ρ α=.int .i64 (j:Int))(hj:j<n)(hK:C.K (.slice A n c) sz (l.flatMap f))(hz:l[j]?=some z)(ho:o<sz)(hv:(f z)[o]?=some v):cZ.rel C ρ α (.elem sz o) [s,i] v:=by
 refine⟨(cq (C:=C) hA hs hi hj).1,l.flatMap f,by rw [hs];exact hK,?_⟩
 rw [hi]
 show(l.flatMap f)[(j:Int).toNat*sz+o]?=some v
 rw [Int.toNat_natCast,← List.getElem?_drop,hJ hf hz,List.getElem?_append_left (by rw [hf];exact ho),hv]
theorem fH{C:Cx}{ρ:List Value}{α:Nat→AV}{neq:Bool}{n:Nat}{l:List CK}{vs:List V}{β:Type} [DecidableEq β] {f:β→List Value}(hf:∀ a b,f a=f b→a=b){y z:β}(h:(f y=f z)=(ah ρ α (vs.take n)=ah ρ α (vs.drop n)))(h1:fits l (ah ρ α (vs.take n))=true)(h2:fits l (ah ρ α (vs.drop n))=true):cZ.rel C ρ α (.eqr neq n l) vs (.bool (neq ^^ decide (y=z))) :=
 ⟨decide (y=z),by rw [← h,decide_eq_true_eq];exact⟨fun e=>by rw [e],hf y z⟩,h1,h2,rfl⟩
theorem rd_some{W:World}{sz:Nat}{A:Option Addr}{n:Nat}{xs:List Value}(h:Rd W sz A n xs):0<n→A.isSome=true:=fun hn=>by
 obtain⟨ad,rfl,_⟩:=h.2 hn
 rfl
theorem ap{C:Cx}{f:FuncId}{rw:List Rw}{as':List Arg}(h:C.ali f=[]):ve C f rw as':=fun j hj=>by rw [h]at hj;cases hj
theorem wu{a b:Nat}(h:0<b):aZ .rem (.int .i64 (a:Int)) (.int .i64 (b:Int))=some (.int .i64 ((a % b:Nat):Int)):=by
 have hb:¬ ((b:Int)=0):=ab
 have e:((a % b:Nat):Int)=(a:Int).tmod b:=by
  rw [Int.tmod_eq_emod_of_nonneg ab];rfl
 simp only [aZ]
 rw [if_pos trivial,if_neg hb,e]
theorem ji{w:World}{rt:World→Prop}{rf:Nat→Prop}{hs:List Ch}{os:List Ow}{ps:List (World→Prop)}{W:World}{u v x:Value}(h:St ⟨w,[],rt,rf⟩ hs os ps W)(hu:Ending.returned v=.returned x)(hx:x=u):Ending.returned v=.returned u∧Below w.heap.size w W:=⟨hu.trans (by rw [hx]),h.below⟩
theorem QE{C:Cx}{w:World}{rt:World→Prop}{rf:Nat→Prop}{ps:List (World→Prop)}{T0:List TF}{L:List (Cx→List Value→Prop)}{ρ:List Value}{v:V}{hp:List (Option ak)}{stk:List (List (Option V))}{u:Value}(x:Value)(hx:x=u)(hu:∀ α,Ending.returned (v.den ρ α)=.returned x:=by intro α;kernel_rfl):VC C ⟨w,[],rt,rf⟩ ps T0 (fun e w'=>e=.returned u∧Below w.heap.size w w') L ρ (.ret v hp stk):=aK fun α W _ _ hS=>ji hS (hu α) hx
theorem QH{v:Option Value}(x:Int)(h:v=some (.int .i64 (IntKind.i64.wrap x)):=by kernel_rfl) (h1 : -9223372036854775808≤x:=by omega) (h2:x≤9223372036854775807:=by omega):v=some (.int .i64 x):=h.trans (by rw [wrap_i64 h1 h2])
theorem QI(i:Nat){v:Option Value}(h:v=some (.int .i64 (IntKind.i64.wrap ((i:Int)+1))):=by kernel_rfl) (hb:(i:Int)<9223372036854775807:=by omega):v=some (.int .i64 ((i+1:Nat):Int)):=h.trans (by rw [show((i+1:Nat):Int)=(i:Int)+1 by omega,wrap_i64 ab ab])
def V.q(i:Nat):V:=.x i []
def V.i(n:Int):V:=.k (.int .i64 n)
def QJ(i a n:Nat):List V:=(List.range n).map fun j=>.x i [a+j]
def QK(a n:Nat):List V:=(List.range n).map fun j=>.x (a+j) []
def QL{β:Type}(n:Nat)(x:β):List β:=List.replicate n x
abbrev QV:=Value→Nat→List Value→Prop
abbrev QW:QV:=fun _ _ _=>False
def QU(C:Cx)(G:kp)(f:FuncId)(fn:Func)(args:List V)(sh:List Sh):Tree:=(run C G 100000 0 (door f fn args sh) [.code (fn.body.getD .skip),.top fn]).eS
theorem QG{C:Cx}{G:kp}{f:FuncId}{fn:Func}{args:List V}{sh:List Sh}{t:Tree}{Q:Ending→World→Prop}{w:World}{vals:Array Value}(ht:QU C G f fn args sh=t)(ρ:List Value)(hC:C.Ok)(hf:C.P.funcs[f]?=some fn)(hK:∀ W',bp [] w W'→Kf C W')(hv:VC C ⟨w,[],Af C,Bf C⟩ [Kf C] [] Q [] ρ t)(hN:C.N=[]∧C.nb≤w.heap.size:=by exact⟨rfl,Nat.zero_le _⟩) (hla:C.la=true→Bf C C.nb:=by exact fun h=>nomatch (show false=true from h)) (hb:fn.body.isSome=true:=by kernel_rfl) (hd:qI fn args sh=true:=by kernel_rfl) (hfit:Sh.dL sh ρ=true:=by kernel_rfl) (hvals:(ah ρ (fun _=>default) args).toArray=vals:=by kernel_rfl):Calls C.P f vals w Q:=by
 obtain⟨body,hb'⟩:=Option.isSome_iff_exists.1 hb
 unfold QU at ht
 rw [hb']at ht
 exact b8 100000 t hC hf hb' ht hd hfit hvals hK hv hN hla
section
variable {C:Cx}{w0:fB}{ps:List (World→Prop)}{T0:List TF}{R:Ending→World→Prop}{L:List (Cx→List Value→Prop)}{ρ:List Value}
theorem QF{q:cZ}{args:List V}{sh:Sh}{t:Tree}(v:Value){p:Prop}(h:p)(k:VC C w0 ps T0 R L (ρ++[v]) t)(e:∀ α,p=q.rel C ρ α args v:=by intro α;kernel_rfl) (hf:sh.fit v=true:=by kernel_rfl):VC C w0 ps T0 R L ρ (.df q args sh t):=aO v (fun α=>cast (e α) h) hf k
theorem QM{s i:V}{t:Tree}(A:Option Addr)(n c j:Nat)(hA:0<n→A.isSome=true)(hj:j<n)(k:VC C w0 ps T0 R L (ρ++[.bool true]) t)(hs:∀ α,s.den ρ α=.slice A n c:=by intro α;kernel_rfl) (hi:∀ α,i.den ρ α=.int .i64 (j:Int):=by intro α;kernel_rfl):VC C w0 ps T0 R L ρ (.df .bnd [s,i] .one t):=aO (.bool true) (fun α=>cq hA (hs α) (hi α) hj) rfl k
theorem QN{s i:V}{sh:Sh}{t:Tree}{sz:Nat}{β:Type}{f:β→List Value}{l:List β}(v:Value)(A:Option Addr)(n c j:Nat)(z:β)(hA:0<n→A.isSome=true)(hj:j<n)(hK:C.K (.slice A n c) sz (l.flatMap f))(hz:l[j]?=some z)(k:VC C w0 ps T0 R L (ρ++[v]) t)(hf:∀ a,(f a).length=sz:=by exact fun _=>rfl) (hs:∀ α,s.den ρ α=.slice A n c:=by intro α;kernel_rfl) (hi:∀ α,i.den ρ α=.int .i64 (j:Int):=by intro α;kernel_rfl) (hv:Value.agg (f z).toArray=v:=by kernel_rfl) (hs2:sh.fit v=true:=by kernel_rfl):VC C w0 ps T0 R L ρ (.df (.elems sz 0 sz) [s,i] sh t):=by
 subst hv
 exact aO _ (fun α=>im hf hA (hs α) (hi α) hj hK hz) hs2 k
end
theorem QS{a b:Bool}(h:a=true↔b=true):Value.bool a=.bool b:=by rw [Bool.eq_iff_iff.2 h]
theorem QT:(∀ (p:Prop) [Decidable p],(decide p=true)=p)∧((false=true)=False)∧(∀ p:Prop,(True↔p)=p)∧(∀ p:Prop,(False↔p)=¬ p)∧(∀ p:Prop,(p↔True)=p)∧(∀ p:Prop,(p↔False)=¬ p):=⟨fun p _=>decide_eq_true_eq,Bool.false_eq_true,fun p=>true_iff p,fun p=>false_iff p,fun p=>iff_true p,fun p=>iff_false p⟩
theorem QO{p1:Prop}(a1:p1:=by kernel_rfl):p1∧True:=⟨a1,trivial⟩
theorem QP{p1 p2:Prop}(a1:p1:=by kernel_rfl) (a2:p2:=by kernel_rfl):p1∧p2∧True:=⟨a1,a2,trivial⟩
theorem QQ{p1 p2 p3 p4:Prop}(a1:p1:=by kernel_rfl) (a2:p2:=by kernel_rfl) (a3:p3:=by kernel_rfl) (a4:p4:=by kernel_rfl):p1∧p2∧p3∧p4∧True:=⟨a1,a2,a3,a4,trivial⟩
theorem QR{p1 p2 p3 p4 p5 p6:Prop}(a1:p1:=by kernel_rfl) (a2:p2:=by kernel_rfl) (a3:p3:=by kernel_rfl) (a4:p4:=by kernel_rfl) (a5:p5:=by kernel_rfl) (a6:p6:=by kernel_rfl):p1∧p2∧p3∧p4∧p5∧p6∧True:=⟨a1,a2,a3,a4,a5,a6,trivial⟩
end SX
theorem LL:(∀ {α:Type}(a b:List α),(a++b).length=a.length+b.length)∧(∀ {α:Type}(i:Nat)(l:List α),(l.take i).length=min i l.length)∧(∀ {α:Type}(i:Nat)(l:List α),(l.drop i).length=l.length-i)∧(∀ {α:Type}(a:α)(l:List α),(a::l).length=l.length+1)∧(∀ {α:Type},([]:List α).length=0) :=
 ⟨fun _ _=>List.length_append,fun _ _=>List.length_take,fun _ _=>List.length_drop,fun _ _=>List.length_cons,List.length_nil⟩
theorem cb:(∀ b:Bool,(true != b) = !b)∧(∀ b:Bool,(false != b)=b)∧(∀ b:Bool,(true ^^ b) = !b)∧(∀ b:Bool,(false ^^ b)=b)∧(∀ b:Bool,((!b)=true)=(b=false))∧(∀ b:Bool,((!b)=false)=(b=true))∧(∀ (p:Prop) [Decidable p],(decide p=true)=p)∧(∀ (p:Prop) [Decidable p],(decide p=false)=¬ p)∧(∀ {α:Type} [BEq α] [LawfulBEq α] (a b:α),((a == b)=true)=(a=b))∧(∀ {α:Type} [BEq α] [LawfulBEq α] (a b:α),((a != b)=true)=(a≠b))∧(∀ {α:Type}(a b:α),(a≠b)=¬ (a=b))∧(∀ {α:Type} [BEq α] [LawfulBEq α] (a b:α),((a == b)=false)=(a≠b))∧(∀ {α:Type} [BEq α] [LawfulBEq α] (a b:α),((a != b)=false)=(a=b))∧(∀ {a b:Int},(¬ a<b)=(b≤a))∧(∀ {a b:Int},(¬ a≤b)=(b<a))∧(∀ {α:Type} [LT α] (a b:α),(a>b)=(b<a))∧(∀ {α:Type} [LE α] (a b:α),(a≥b)=(b≤a)) :=
 ⟨ai,ai,ai,ai,ai,ai,fun p _=>ai,fun p _=>ai,by intros;simp,by intros;simp,by intros;simp,by intros;simp,by intros;simp,by intros;simp [Int.not_lt],by intros;simp [Int.not_le],by intros;rfl,by intros;rfl⟩
namespace SX
def bo(A:Option Addr)(sz l h m:Nat):Value:=.slice (if m=l then A else A.map (·.add (l*sz))) (h-l) (m-l)
def mf(A:Option Addr)(n c sz:Nat)(cells:List Value)(s:Value)(z:Nat)(xs:List Value):Prop:=z=sz∧∃ l h m,l≤h∧h≤n∧h≤m∧m≤c∧s=bo A sz l h m∧xs=(cells.drop (l*sz)).take ((h-l)*sz)
theorem mf.part{β:Type}{f:β→List Value}{sz:Nat}(hf:∀ a,(f a).length=sz){A:Option Addr}{n c:Nat}{L:List β}{l h m:Nat}(h1:l≤h)(h2:h≤n)(h3:h≤m)(h4:m≤c):mf A n c sz (L.flatMap f) (bo A sz l h m) sz (((L.drop l).take (h-l)).flatMap f) :=
 ⟨rfl,l,h,m,h1,h2,h3,h4,rfl,by rw [fZ hf,jv hf]⟩
theorem mf.rd{W:World}{A:Option Addr}{n c sz z:Nat}{cells xs:List Value}{s:Value}(hr:Rd W sz A n cells)(h:mf A n c sz cells s z xs):Arg.rd W ⟨s,z,xs⟩:=by
 obtain⟨rfl,l,h,m,h1,h2,h3,h4,rfl,rfl⟩:=h
 have:=(hr.take h2).cut (k:=l) (cap:=m) h1 ab
 refine⟨?_,ab⟩
 show Rd W z _ _ _
 rw [List.drop_take,← Nat.sub_mul]at this
 exact this
section
variable {C:Cx}{ρ:List Value}{α:Nat→AV}{s i i' x y:V}{A:Option Addr}{n c k sz:Nat}
theorem Mc(hs:s.den ρ α=.slice A n c)(hi:i.den ρ α=.int .i64 (k:Int))(hk:k≤c):cZ.rel C ρ α (.slc false sz false true false) [s,i] (bo A sz 0 k c):=by
 show oM _ _ _ _ _ _=_
 simp only [ah,hs,hi,oM,jC,Option.bind_some,b7,iN]
 rw [if_pos ab]
 simp [bo]
theorem du(hs:s.den ρ α=.slice A n c)(hi:i.den ρ α=.int .i64 (k:Int))(hk:k≤n):cZ.rel C ρ α (.slc false sz true false false) [s,i] (bo A sz k n c):=by
 show oM _ _ _ _ _ _=_
 simp only [ah,hs,hi,oM,jC,Option.bind_some,b7,iN]
 rw [if_pos ab]
 simp [bo]
def oN(C:Cx)(ρ:List Value)(α:Nat→AV)(sz:Nat)(src:Rw)(y:V)(xs:List Value):Prop:=∃ x,bT C ρ α [src] [y] [x]∧x.sz=sz∧x.cells=xs
theorem nS{xs:List Value}(hK:C.K (y.den ρ α) sz xs):oN C ρ α sz (.ext sz) y xs:=⟨⟨y.den ρ α,sz,xs⟩,⟨rfl,rfl,hK,trivial⟩,rfl,rfl⟩
theorem aS{xs:List Value}{cs:List V}(h:ah ρ α cs=xs):oN C ρ α sz (.own sz cs) y xs:=⟨⟨y.den ρ α,sz,xs⟩,⟨by rw [← h],trivial⟩,rfl,rfl⟩
theorem az{β:Type}{f:β→List Value}(hf:∀ a,(f a).length=sz)(h1:∀ a,∀ u∈f a,u.oneCell'=true)(h0:0<sz){l1 l2:List β}{cc:V}{by':Nat}{src:Rw}(hc:ae (cc.den ρ α)=l1.flatMap f)(hs:oN C ρ α sz src y (l2.flatMap f))(hb:(l1.length+l2.length)*by'≤140737488355328)(hl:l1.length+l2.length≤140737488355328):cZ.rel C ρ α (.dN sz by' src) [cc,y] (.agg (l2.flatMap f).toArray):=by
 obtain⟨x,ha,hz,hx⟩:=hs
 have e:((ae (cc.den ρ α)).length+x.cells.length) / sz=l1.length+l2.length:=by
  rw [hx,hc,aL hf,aL hf,← Nat.add_mul,Nat.mul_div_cancel _ h0]
 refine⟨x,ha,hz,fun u hu=>?_,by rw [e];exact hb,by rw [e];exact hl,by rw [hx]⟩
 rw [hx]at hu
 obtain⟨a,_,h⟩:=List.mem_flatMap.1 hu
 exact h1 a u h
theorem iZ{β:Type}{f:β→List Value}(hf:∀ a,(f a).length=sz)(h0:0<sz){l:List β}{cc:V}(hc:ae (cc.den ρ α)=l.flatMap f)(hi:i.den ρ α=.int .i64 (k:Int))(hk:k<l.length):cZ.rel C ρ α (.rbnd sz) [cc,i] (.bool true):=by
 refine⟨?_,rfl⟩
 rw [hi,hc,aL hf]
 show 0≤(k:Int)∧(k:Int)<((l.length*sz / sz:Nat):Int)
 rw [Nat.mul_div_cancel _ h0]
 omega
theorem JY{β:Type}{f:β→List Value}(hf:∀ a,(f a).length=sz)(h0:0<sz){l:List β}{cc:V}{vs:List V}{z:β}(hc:ae (cc.den ρ α)=l.flatMap f)(hi:i.den ρ α=.int .i64 (k:Int))(hk:k<l.length)(hv:ah ρ α vs=f z):cZ.rel C ρ α (.rset sz 0) (cc::i::vs) (.agg ((l.set k z).flatMap f).toArray):=by
 have hl:vs.length=sz:=by have:=congrArg List.length hv;rw [aq,hf]at this;exact this
 refine⟨(iZ (C:=C) hf h0 hc hi hk).1,ab,?_⟩
 rw [hc,hi,hv,hl]
 show _=Value.agg ((l.flatMap f).take ((k:Int).toNat*sz+0)++f z++(l.flatMap f).drop ((k:Int).toNat*sz+0+sz)).toArray
 rw [Int.toNat_natCast,Nat.add_zero,jv hf,show k*sz+sz=(k+1)*sz by rw [Nat.add_mul];omega,fZ hf,List.set_eq_take_append_cons_drop,if_pos hk]
 simp
theorem bz{j:Nat}{l:List Value}(h:ρ.getD j undef=.agg l.toArray):ae ((V.cat [.x j []]).den ρ α)=l:=by
 simp only [V.den,ah,List.foldl_nil,h,List.flatMap_cons,List.flatMap_nil,ae,List.append_nil]
end
def aH(w w':World)(roots:List Arg)(hdr:Value)(sz:Nat)(cells:List Value):Prop :=
 (∃ A len cap,hdr=.slice A len cap∧len≤cap)∧Arg.rd w' ⟨hdr,sz,cells⟩ ∧
 (fV w.heap.size hdr∨∃ x∈roots,(∀ W2,x.rd W2→Arg.rd W2 ⟨hdr,sz,cells⟩)∧∀ B,fV B x.v→fV B hdr)
section
variable {w W:World}{rt:World→Prop}{rf:Nat→Prop}{hp:List (Option ak)}{ps:List (World→Prop)}{ρ:List Value}{α:Nat→AV}{sz:Nat}{roots:List Arg}
theorem aH.nil{c:Nat}:aH w W roots (.slice none 0 c) sz []:=⟨⟨_,_,_,rfl,Nat.zero_le _⟩,nK,.inl fun ad n c e _=>by cases e⟩
theorem aH.ok{C:Cx}{f:FuncId}{x:Arg}{as':List Arg}{W':World}{e:Ending}{k:Int}{cells:List Value}(hs:C.sh f=.tp [.sl sz,.one])(ha:C.ali f=[0])(h:Below W.heap.size W W'∧∃ hdr,e=.returned (.tuple #[hdr,.int .i64 k])∧aH W W' [x] hdr sz cells) :
 Below W.heap.size W W'∧∃ hdr,e=.returned ((C.sh f).fill hdr (.tuple #[.agg cells.toArray,.int .i64 k]))∧∀ p z,(p,z)∈(C.sh f).ti []→mX C f (x::as') W W' hdr z (ae (p.foldl comp (.tuple #[.agg cells.toArray,.int .i64 k]))):=by
 obtain⟨hb,hdr,he,h1,h2,h3⟩:=h
 refine⟨hb,hdr,by rw [hs,he];rfl,fun p z hp=>?_⟩
 rw [hs]at hp
 obtain⟨rfl,rfl⟩:p=[0]∧z=sz:=by simpa [Sh.ti,Sh.Bv]using hp
 refine⟨h1,h2,h3.imp id fun⟨y,hy,h4,h5⟩=>⟨0,by rw [ha];simp,x,rfl,?_,?_⟩⟩
 ·obtain rfl:y=x:=af hy
  exact h4
 obtain rfl:y=x:=af hy
 exact h5
theorem aH.root{x:Arg}(hx:x∈roots)(hr:x.rd W)(hs:∃ A len cap,x.v=.slice A len cap∧len≤cap):aH w W roots x.v x.sz x.cells:=⟨hs,hr,.inr ⟨x,hx,fun W2 h=>h,fun B h=>h⟩⟩
theorem aH.row(hS:St ⟨w,[],rt,rf⟩ (aU ρ α 0 hp) [] ps W){n:Nat}{b:ak}(hb:hp[n]?=some (some b))(hk:b.k=.row sz)(hr:b.bB ρ α n){cells:List Value}(hc:b.xs ρ α=cells):aH w W roots ((α n).h) sz cells:=by
 subst hc
 unfold ak.bB at hr
 rw [hk]at hr
 obtain⟨h0,⟨h1,h2⟩|⟨len,cap,h1,h2,h3,h4,h5⟩⟩:=hr
 ·rw [h1,h2];exact .nil
 have hm:(⟨(α n).b,(b.xs ρ α++(α n).tl).toArray,b.t⟩:Ch)∈aU ρ α 0 hp:=dk (k:=0) hb (by simp only [ak.ch,hk,Nat.zero_add,h1])
 rw [h1]
 refine⟨⟨_,_,_,rfl,h4⟩,⟨?_,h4⟩,.inl fun ad k c e _=>?_⟩
 ·refine Rd.mL (hS.at_ hm) h2 fun j u hu=>?_
  rw [Nat.zero_add]
  have:(b.xs ρ α++(α n).tl)[j]?=some u:=by rw [List.getElem?_append_left (List.getElem?_eq_some_iff.1 hu).1];exact hu
  simpa using this
 cases e
 exact(hS.DF hm).resolve_right nofun
theorem aH.Pc(hS:St ⟨w,[],rt,rf⟩ (aU ρ α 0 hp) [] ps W){n:Nat}{b:ak}(hb:hp[n]?=some (some b))(hk:b.k=.row sz)(hr:b.bB ρ α n){cells:List Value}(hc:b.xs ρ α=cells):∃ b' tl',iP sz ((α n).h) b' b.t cells tl' W∧w.heap.size≤b':=by
 subst hc
 unfold ak.bB at hr
 rw [hk]at hr
 obtain⟨h0,⟨h1,h2⟩|⟨len,cap,h1,h2,h3,h4,h5⟩⟩:=hr
 ·exact⟨w.heap.size,[],.inl ⟨h2,h1⟩,Nat.le_refl _⟩
 have hm:(⟨(α n).b,(b.xs ρ α++(α n).tl).toArray,b.t⟩:Ch)∈aU ρ α 0 hp:=dk (k:=0) hb (by simp only [ak.ch,hk,Nat.zero_add,h1])
 exact⟨(α n).b,(α n).tl,.inr ⟨len,cap,h1,h2,h3,h4,h5,hS.at_ hm⟩,(hS.DF hm).resolve_right nofun⟩
theorem mY.b5{C:Cx}{f:FuncId}{rw':List Rw}{as':List Arg}{b5 old':List Value}{t:TypeId}{v:Value}(h:mY C f rw' as' old' sz t v)(e:b5=old'):mY C f rw' as' b5 sz t v:=e▸h
theorem aH.own(hS:St ⟨w,[],rt,rf⟩ (aU ρ α 0 hp) [] ps W){n l:Nat}{b:ak}(hb:hp[n]?=some (some b))(hk:b.k=.cells){cells:List Value}(hc:ah ρ α b.c=cells)(hl:cells.length=l*sz):aH w W roots (.slice (some ⟨(α n).b,0,none⟩) l l) sz cells:=by
 have hm:(⟨(α n).b,(ah ρ α b.c).toArray,b.t⟩:Ch)∈aU ρ α 0 hp:=dk (k:=0) hb (by simp only [ak.ch,hk,Nat.zero_add])
 refine⟨⟨_,_,_,rfl,Nat.le_refl _⟩,⟨Rd.LQ (hS.at_ hm) (by simp [hc]) hl,Nat.le_refl _⟩,.inl fun ad k c e _=>?_⟩
 cases e
 exact(hS.DF hm).resolve_right nofun
theorem aH.ext{C:Cx}(hS:St ⟨w,[],Af C,Bf C⟩ (aU ρ α 0 hp) [] (gZ ⟨w,[],Af C,Bf C⟩ ρ α 0 hp++ps) W){n:Nat}{b:ak}(hb:hp[n]?=some (some b))(hk:b.k=.ext sz)(hr:b.bB ρ α n){cells:List Value}(hc:b.xs ρ α=cells){x:Arg}(hx:x∈roots)(hA:∀ W2,x.rd W2→Af C W2)(hB:∀ B,fV B x.v→Bf C B):aH w W roots ((α n).h) sz cells:=by
 subst hc
 unfold ak.bB at hr
 rw [hk]at hr
 obtain⟨h0,A,len,cap,h1,h2,h3,_⟩:=hr
 obtain⟨f1,f2⟩:=hS.fact (List.mem_append.2 (.inl (cL.2 ⟨n,b,hb,by rw [Nat.zero_add];simp only [ak.ex,hk];rfl⟩)))
 refine⟨⟨A,len,cap,h1,h3⟩,f1,f2.imp id fun⟨g1,g2⟩=>⟨x,hx,fun W2 h=>g1 W2 (hA W2 h),fun B h=>g2 B (hB B h)⟩⟩
end
end SX
abbrev RT (f:FuncId) (as':Array Value) (w:World) (v:Value):Prop:=Calls Tryz.prog f as' w fun e w'=>e=.returned v∧Below w.heap.size w w'
abbrev RS (f:FuncId) (as':Array Value) (w:World) (sz:Nat) (xs:List Value):Prop:=Calls Tryz.prog f as' w fun e w'=>Below w.heap.size w w'∧∃ hdr,e=.returned hdr∧SX.aH w w' [] hdr sz xs
abbrev cm:=BitVec 32
abbrev W8:=BitVec 8
def aI(x:cm):Value:=.int .u32 (x.toNat:Int)
def w8(x:W8):Value:=.int .u8 (x.toNat:Int)
theorem wrap_u32(n:Nat):IntKind.u32.wrap (n:Int)=((BitVec.ofNat 32 n).toNat:Int):=by
 simp [IntKind.wrap,IntKind.signed,IntKind.bits]
theorem wrap_u8(n:Nat):IntKind.u8.wrap (n:Int)=((BitVec.ofNat 8 n).toNat:Int):=by
 simp [IntKind.wrap,IntKind.signed,IntKind.bits]
theorem cI(x y:cm):SX.aZ .add (aI x) (aI y)=some (aI (x+y)):=by
 simp only [SX.aZ,om,aI,if_true]
 rw [← Int.natCast_add,wrap_u32,BitVec.ofNat_add]
 simp
theorem pO(x y:cm):SX.aZ .and (aI x) (aI y)=some (aI (x&&&y)):=by
 have h:(BitVec.ofInt 32 (x.toNat:Int))=x:=by apply BitVec.eq_of_toNat_eq;simp
 have h':(BitVec.ofInt 32 (y.toNat:Int))=y:=by apply BitVec.eq_of_toNat_eq;simp
 simp only [SX.aZ,aI,if_true,IntKind.bits,h,h',wrap_u32,BitVec.ofNat_toNat,BitVec.setWidth_eq]
 rfl
theorem sM(x y:cm):SX.aZ .or (aI x) (aI y)=some (aI (x|||y)):=by
 have h:(BitVec.ofInt 32 (x.toNat:Int))=x:=by apply BitVec.eq_of_toNat_eq;simp
 have h':(BitVec.ofInt 32 (y.toNat:Int))=y:=by apply BitVec.eq_of_toNat_eq;simp
 simp only [SX.aZ,aI,if_true,IntKind.bits,h,h',wrap_u32,BitVec.ofNat_toNat,BitVec.setWidth_eq]
 rfl
theorem fR(x y:cm):SX.aZ .xor (aI x) (aI y)=some (aI (x^^^y)):=by
 have h:(BitVec.ofInt 32 (x.toNat:Int))=x:=by apply BitVec.eq_of_toNat_eq;simp
 have h':(BitVec.ofInt 32 (y.toNat:Int))=y:=by apply BitVec.eq_of_toNat_eq;simp
 simp only [SX.aZ,aI,if_true,IntKind.bits,h,h',wrap_u32,BitVec.ofNat_toNat,BitVec.setWidth_eq]
 rfl
theorem pP(x:cm)(k:IntKind)(n:Nat)(hn:n<32):SX.aZ .shl (aI x) (.int k (n:Int))=some (aI (x<<<n)):=by
 have h1:¬ ((n:Int)<0):=ab
 have h2:min n 32=n:=ab
 simp only [SX.aZ,aI,h1,if_false,Int.toNat_natCast,IntKind.bits,h2]
 rw [show((x.toNat:Int)*2 ^ n)=((x.toNat*2 ^ n:Nat):Int) by simp,wrap_u32]
 congr 2
 simp [BitVec.toNat_shiftLeft,Nat.shiftLeft_eq]
theorem sN(x:cm)(k:IntKind)(n:Nat)(hn:n<32):SX.aZ .shr (aI x) (.int k (n:Int))=some (aI (x>>>n)):=by
 have h1:¬ ((n:Int)<0):=ab
 have h2:min n 32=n:=ab
 simp only [SX.aZ,aI,h1,if_false,Int.toNat_natCast,IntKind.bits,h2]
 rw [BitVec.toNat_ushiftRight,Nat.shiftRight_eq_div_pow]
 congr 2
 rw [show((2:Int) ^ n)=((2 ^ n:Nat):Int) by simp,Int.fdiv_eq_ediv_of_nonneg _ (Int.natCast_nonneg _)]
 exact(Int.natCast_ediv _ _).symm
theorem jc(b:W8):SX.fF .u32 (w8 b)=some (aI (b.setWidth 32)):=by
 simp [SX.fF,w8,aI,wrap_u32]
theorem u5(n:Nat)(k:IntKind):SX.fF .u8 (.int k (n:Int))=some (w8 (BitVec.ofNat 8 n)):=by
 simp [SX.fF,w8,wrap_u8]
def ca(x:cm)(n:Nat):cm:=x<<<n|||x>>>(32-n)
noncomputable def sU(K A:SX.QV):SX.Cx:={ P:=Tryz.prog,R:=fun _ _ _ _=>False,shp:=fun _=>none,K:=K,A:=A }
theorem fo(K A:SX.QV):(sU K A).Ok:=SX.Cx.b6 al fun _ f xs v W h=>h.elim
def uU:SX.Tree :=
(.df (.conv .u64) [(.q 1)] .one
(.df (.bin .and 115) [(.q 2),(.k (.int .u64 31))] .one
(.df (.bin .shl 136) [(.q 0),(.q 3)] .one
(.df (.bin .sub 115) [(.k (.int .u64 32)),(.q 3)] .one
(.df (.bin .shr 136) [(.q 0),(.q 5)] .one
(.df (.bin .or 136) [(.q 4),(.q 6)] .one
(.ret (.q 7) [] [])))))))
def C8:List SX.V:=[.x 0 [],.x 1 []]
theorem HP(K A:SX.QV):SX.QU (sU K A) ⟨fun _=>false,[],0,100⟩ 128 Tryz.f128 C8 [.one,.one]=uU:=aa
def aD(k:Int):Nat:=(k % 32).toNat
def turns:List Int:=[-2,-6,-7,-11,-13,-17,-18,-19,-22,-25]
theorem yL(x:cm)(k:Int)(hk:k∈turns)(w:World):RT 128 #[aI x,.int .i64 k] w (aI (ca x (aD k))):=by
 have hc:SX.fF .u64 (.int .i64 k)=some (.int .u64 (IntKind.u64.wrap k)):=rfl
 have ha:SX.aZ .and (.int .u64 (IntKind.u64.wrap k)) (.int .u64 31)=some (.int .u64 (aD k:Nat)):=by
  simp only [turns,List.mem_cons,List.not_mem_nil,or_false]at hk
  rcases hk with rfl|rfl|rfl|rfl|rfl|rfl|rfl|rfl|rfl|rfl<;>kernel_rfl
 have hb:0<aD k∧aD k<32:=by
  simp only [turns,List.mem_cons,List.not_mem_nil,or_false]at hk
  rcases hk with rfl|rfl|rfl|rfl|rfl|rfl|rfl|rfl|rfl|rfl<;>decide
 have hs:SX.aZ .sub (.int .u64 32) (.int .u64 (aD k:Nat))=some (.int .u64 ((32-aD k:Nat):Int)):=by
  simp only [SX.aZ,om,if_true]
  rw [wrap_u64 ab ab]
  congr 2
  omega
 refine SX.QG (HP SX.QW SX.QW) [aI x,.int .i64 k] (fo _ _) Tryz.func128 (fun W _=>SX.cD (fun _ _ _ h=>h) W) ?_
 unfold uU
 refine SX.QC (.int .u64 (IntKind.u64.wrap k)) (fun α=>cast aa hc) ?_
 refine SX.QC (.int .u64 (aD k:Nat)) (fun α=>cast aa ha) ?_
 refine SX.QF (aI (x<<<aD k)) (pP x .u64 (aD k) hb.2) ?_
 refine SX.QC (.int .u64 ((32-aD k:Nat):Int)) (fun α=>cast aa hs) ?_
 refine SX.QF (aI (x>>>(32-aD k))) (sN x .u64 (32-aD k) ab) ?_
 refine SX.QF (aI (ca x (aD k))) (sM (x<<<aD k) (x>>>(32-aD k))) ?_
 exact SX.QE (aI (ca x (aD k))) rfl
def Mw(f:FuncId)(xs:List SX.Arg)(v:Value):Prop:=f=128∧∃ (x:cm) (k:Int),k∈turns∧xs=[⟨aI x,0,[]⟩,⟨.int .i64 k,0,[]⟩]∧v=aI (ca x (aD k))
noncomputable def PW(K A:SX.QV):SX.Cx:={ P:=Tryz.prog,R:=fun _=>Mw,shp:=fun f=>if f=128 then some .one else none,K:=K,A:=A }
theorem Lb(K A:SX.QV):(PW K A).Ok:=SX.Cx.b6 al fun _ f xs v W h hrd hK=>by
 obtain⟨rfl,x,k,hk,rfl,rfl⟩:=h
 exact(yL x k hk W).mono fun e w' h=>SX.ay rfl h
def nZ:SX.Tree :=
(.df .neg [(.q 1)] .one
(.df (.call 128 [.no,.no]) [(.q 0),(.q 4)] .one
(.df .neg [(.q 2)] .one
(.df (.call 128 [.no,.no]) [(.q 0),(.q 6)] .one
(.df (.bin .xor 136) [(.q 5),(.q 7)] .one
(.df .neg [(.q 3)] .one
(.df (.call 128 [.no,.no]) [(.q 0),(.q 9)] .one
(.df (.bin .xor 136) [(.q 8),(.q 10)] .one
(.ret (.q 11) [] [])))))))))
def vm:List SX.V:=[.x 0 [],.x 1 [],.x 2 [],.x 3 []]
theorem yX(K A:SX.QV):SX.QU (PW K A) ⟨fun _=>false,[],0,100⟩ 129 Tryz.f129 vm [.one,.one,.one,.one]=nZ:=aa
theorem yK(x:cm)(a b c:Int)(ha : -a∈turns)(hb : -b∈turns)(hc : -c∈turns)(w:World):RT 129 #[aI x,.int .i64 a,.int .i64 b,.int .i64 c] w (aI (ca x (aD (-a))^^^ca x (aD (-b))^^^ca x (aD (-c)))):=by
 have hn:∀ a:Int,-a∈turns→SX.DR (.int .i64 a)=some (.int .i64 (-a)):=fun a h=>by
  simp only [SX.DR]
  rw [wrap_i64]
  ·revert h;generalize -a=b;intro h;simp only [turns,List.mem_cons,List.not_mem_nil,or_false]at h;omega
  revert h;generalize -a=b;intro h;simp only [turns,List.mem_cons,List.not_mem_nil,or_false]at h;omega
 refine SX.QG (yX SX.QW SX.QW) [aI x,.int .i64 a,.int .i64 b,.int .i64 c] (Lb _ _) Tryz.func129 (fun W _=>SX.cD (fun _ _ _ h=>h) W) ?_
 unfold nZ
 refine SX.QF (.int .i64 (-a)) (hn a ha) ?_
 refine SX.QC (aI (ca x (aD (-a)))) (fun α=>⟨[⟨aI x,0,[]⟩,⟨.int .i64 (-a),0,[]⟩],SX.QQ,⟨rfl,x,-a,ha,rfl,rfl⟩,SX.ap rfl⟩) ?_
 refine SX.QF (.int .i64 (-b)) (hn b hb) ?_
 refine SX.QC (aI (ca x (aD (-b)))) (fun α=>⟨[⟨aI x,0,[]⟩,⟨.int .i64 (-b),0,[]⟩],SX.QQ,⟨rfl,x,-b,hb,rfl,rfl⟩,SX.ap rfl⟩) ?_
 refine SX.QF (aI (ca x (aD (-a))^^^ca x (aD (-b)))) (fR (ca x (aD (-a))) (ca x (aD (-b)))) ?_
 refine SX.QF (.int .i64 (-c)) (hn c hc) ?_
 refine SX.QC (aI (ca x (aD (-c)))) (fun α=>⟨[⟨aI x,0,[]⟩,⟨.int .i64 (-c),0,[]⟩],SX.QQ,⟨rfl,x,-c,hc,rfl,rfl⟩,SX.ap rfl⟩) ?_
 refine SX.QF (aI (ca x (aD (-a))^^^ca x (aD (-b))^^^ca x (aD (-c)))) (fR (ca x (aD (-a))^^^ca x (aD (-b))) (ca x (aD (-c)))) ?_
 exact SX.QE (aI (ca x (aD (-a))^^^ca x (aD (-b))^^^ca x (aD (-c)))) rfl
def c8(b:W8):List Value:=[w8 b]
theorem aQ(b:W8):(c8 b).length=1:=rfl
noncomputable def PX(K A:SX.QV):SX.Cx:={ sU K A with cut:=[(3,0,false),(8,1,false),(14,2,false),(20,3,false),(26,4,true)] }
theorem Li(K A:SX.QV):(PX K A).Ok:=SX.Cx.b6 al fun _ f xs v W h=>h.elim
def sO(a b c d:W8):cm:=(((0|||a.setWidth 32)<<<8|||b.setWidth 32)<<<8|||c.setWidth 32)<<<8|||d.setWidth 32
def uZ:SX.Tree :=
(.df (.slc false 1 false true false) [(.q 0),(.i 4)] .one
(.df (.len false) [(.q 1)] .one
(.df (.bin .lss 3) [(.i 0),(.q 2)] .one
(.br 3 []
(.df .bnd [(.q 1),(.i 0)] .one
(.df (.elem 1 0) [(.q 1),(.i 0)] .one
(.df (.conv .u32) [(.q 5)] .one
(.df (.bin .or 136) [(.k (.int .u32 0)),(.q 6)] .one
(.df (.bin .lss 3) [(.i 1),(.q 2)] .one
(.br 8 []
(.df .bnd [(.q 1),(.i 1)] .one
(.df (.elem 1 0) [(.q 1),(.i 1)] .one
(.df (.bin .shl 136) [(.q 7),(.k (.int .u64 8))] .one
(.df (.conv .u32) [(.q 10)] .one
(.df (.bin .or 136) [(.q 11),(.q 12)] .one
(.df (.bin .lss 3) [(.i 2),(.q 2)] .one
(.br 14 []
(.df .bnd [(.q 1),(.i 2)] .one
(.df (.elem 1 0) [(.q 1),(.i 2)] .one
(.df (.bin .shl 136) [(.q 13),(.k (.int .u64 8))] .one
(.df (.conv .u32) [(.q 16)] .one
(.df (.bin .or 136) [(.q 17),(.q 18)] .one
(.df (.bin .lss 3) [(.i 3),(.q 2)] .one
(.br 20 []
(.df .bnd [(.q 1),(.i 3)] .one
(.df (.elem 1 0) [(.q 1),(.i 3)] .one
(.df (.bin .shl 136) [(.q 19),(.k (.int .u64 8))] .one
(.df (.conv .u32) [(.q 22)] .one
(.df (.bin .or 136) [(.q 23),(.q 24)] .one
(.df (.bin .lss 3) [(.i 4),(.q 2)] .one
(.br 26 [] (.bad 70 [])
(.ret (.q 25) [] [])))))))) (.bad 70 [])))))))) (.bad 70 [])))))))) (.bad 70 []))))))) (.bad 70 [])))))
def Dd:List SX.V:=[.x 0 []]
theorem H0(K A:SX.QV):SX.QU (PX K A) ⟨fun _=>false,[],0,100⟩ 127 Tryz.f127 Dd [.any]=uZ:=aa
theorem IG(l:List W8)(b0 b1 b2 b3:W8)(hl:l.take 4=[b0,b1,b2,b3])(A:Option Addr)(n c:Nat)(w:World)(hr:Rd w 1 A n (l.flatMap c8))(hn:n≤9223372036854775807)(hc:n≤c):RT 127 #[.slice A n c] w (aI (sO b0 b1 b2 b3)):=by
 have hln:l.length=n:=by have:=hr.1;rw [SX.aL aQ]at this;omega
 have h4:4≤n:=by
  have:=congrArg List.length hl
  simp only [List.length_take,List.length_cons,List.length_nil]at this
  omega
 refine SX.QG (H0 (SX.mf A n c 1 (l.flatMap c8)) SX.QW) [.slice A n c] (Li _ _) Tryz.func127 (fun W hW s z xs h=>SX.mf.rd (hr.aJ hW) h) ?_
 have hA:=SX.rd_some hr
 have hA':0<4→(if c=0 then A else A.map (·.add (0*1))).isSome=true:=fun _=>by
  rw [if_neg ab]
  have:=hA ab
  cases A with
  | none=>cases this
  | some a=>rfl
 have hK:SX.mf A n c 1 (l.flatMap c8) (.slice (if c=0 then A else A.map (·.add (0*1))) 4 c) 1 ([b0,b1,b2,b3].flatMap c8):=by
  have:=SX.mf.part aQ (A:=A) (n:=n) (c:=c) (L:=l) (l:=0) (h:=4) (m:=c) ab h4 ab ab
  rw [show((l.drop 0).take (4-0))=[b0,b1,b2,b3] from hl]at this
  exact this
 unfold uZ
 refine SX.QC (SX.bo A 1 0 4 c) (fun α=>SX.Mc (n:=n) (k:=4) aa aa ab) ?_
 refine SX.QB (.int .i64 4) ?_
 refine SX.QB (.bool true) ?_
 refine SX.QD true (fun _=>?_) (fun h=>absurd h ai)
 refine SX.QC (.bool true) (fun α=>SX.cq (A:=if c=0 then A else A.map (·.add (0*1))) (n:=4) (c:=c) (j:=0) hA' aa aa ab) ?_
 refine SX.QC (w8 b0) (fun α=>SX.cS (f:=c8) (l:=[b0,b1,b2,b3]) (A:=if c=0 then A else A.map (·.add (0*1))) (n:=4) (c:=c) (j:=0) (z:=b0) aQ hA' aa aa ab (cast aa hK) rfl ab rfl) ?_
 refine SX.QF (aI (b0.setWidth 32)) (jc b0) ?_
 refine SX.QF (aI (0|||b0.setWidth 32:cm)) (sM 0 (b0.setWidth 32)) ?_
 refine SX.QB (.bool true) ?_
 refine SX.QD true (fun _=>?_) (fun h=>absurd h ai)
 refine SX.QC (.bool true) (fun α=>SX.cq (A:=if c=0 then A else A.map (·.add (0*1))) (n:=4) (c:=c) (j:=1) hA' aa aa ab) ?_
 refine SX.QC (w8 b1) (fun α=>SX.cS (f:=c8) (l:=[b0,b1,b2,b3]) (A:=if c=0 then A else A.map (·.add (0*1))) (n:=4) (c:=c) (j:=1) (z:=b1) aQ hA' aa aa ab (cast aa hK) rfl ab rfl) ?_
 refine SX.QF (aI ((0|||b0.setWidth 32:cm)<<<8)) (pP (0|||b0.setWidth 32:cm) .u64 8 ab) ?_
 refine SX.QF (aI (b1.setWidth 32)) (jc b1) ?_
 refine SX.QF (aI ((0|||b0.setWidth 32:cm)<<<8|||b1.setWidth 32:cm)) (sM ((0|||b0.setWidth 32:cm)<<<8) (b1.setWidth 32)) ?_
 refine SX.QB (.bool true) ?_
 refine SX.QD true (fun _=>?_) (fun h=>absurd h ai)
 refine SX.QC (.bool true) (fun α=>SX.cq (A:=if c=0 then A else A.map (·.add (0*1))) (n:=4) (c:=c) (j:=2) hA' aa aa ab) ?_
 refine SX.QC (w8 b2) (fun α=>SX.cS (f:=c8) (l:=[b0,b1,b2,b3]) (A:=if c=0 then A else A.map (·.add (0*1))) (n:=4) (c:=c) (j:=2) (z:=b2) aQ hA' aa aa ab (cast aa hK) rfl ab rfl) ?_
 refine SX.QF (aI (((0|||b0.setWidth 32:cm)<<<8|||b1.setWidth 32:cm)<<<8)) (pP ((0|||b0.setWidth 32:cm)<<<8|||b1.setWidth 32:cm) .u64 8 ab) ?_
 refine SX.QF (aI (b2.setWidth 32)) (jc b2) ?_
 refine SX.QF (aI (((0|||b0.setWidth 32:cm)<<<8|||b1.setWidth 32:cm)<<<8|||b2.setWidth 32:cm)) (sM (((0|||b0.setWidth 32:cm)<<<8|||b1.setWidth 32:cm)<<<8) (b2.setWidth 32)) ?_
 refine SX.QB (.bool true) ?_
 refine SX.QD true (fun _=>?_) (fun h=>absurd h ai)
 refine SX.QC (.bool true) (fun α=>SX.cq (A:=if c=0 then A else A.map (·.add (0*1))) (n:=4) (c:=c) (j:=3) hA' aa aa ab) ?_
 refine SX.QC (w8 b3) (fun α=>SX.cS (f:=c8) (l:=[b0,b1,b2,b3]) (A:=if c=0 then A else A.map (·.add (0*1))) (n:=4) (c:=c) (j:=3) (z:=b3) aQ hA' aa aa ab (cast aa hK) rfl ab rfl) ?_
 refine SX.QF (aI ((((0|||b0.setWidth 32:cm)<<<8|||b1.setWidth 32:cm)<<<8|||b2.setWidth 32:cm)<<<8)) (pP (((0|||b0.setWidth 32:cm)<<<8|||b1.setWidth 32:cm)<<<8|||b2.setWidth 32:cm) .u64 8 ab) ?_
 refine SX.QF (aI (b3.setWidth 32)) (jc b3) ?_
 refine SX.QF (aI ((((0|||b0.setWidth 32:cm)<<<8|||b1.setWidth 32:cm)<<<8|||b2.setWidth 32:cm)<<<8|||b3.setWidth 32:cm)) (sM ((((0|||b0.setWidth 32:cm)<<<8|||b1.setWidth 32:cm)<<<8|||b2.setWidth 32:cm)<<<8) (b3.setWidth 32)) ?_
 refine SX.QB (.bool false) ?_
 refine SX.QD false (fun h=>absurd h ai) (fun _=>?_)
 exact SX.QE (aI (sO b0 b1 b2 b3)) rfl
def zV(x:cm):List Value:=[aI x]
theorem vr(x:cm):(zV x).length=1:=rfl
theorem xT:∀ l:List cm,l.flatMap zV=l.map aI
 | []=>rfl
 | x::l=>by simp [zV,xT l]
def au(l:List W8)(t:Nat):cm:=sO (l.getD (4*t) 0) (l.getD (4*t+1) 0) (l.getD (4*t+2) 0) (l.getD (4*t+3) 0)
theorem KJ(l:List W8)(h:4≤l.length):l.take 4=[l.getD 0 0,l.getD 1 0,l.getD 2 0,l.getD 3 0]:=by
 match l,h with
 | a::b::c::d::l,_=>rfl
def Ox(l:List W8):List cm:=((List.range 16).map fun t=>au l t)++List.replicate 48 0
theorem Km(l:List W8):(Ox l).length=64:=by simp [Ox]
def ui(u:List cm)(t:Nat):cm:=u.getD (t-16) 0+(ca (u.getD (t-15) 0) (aD (-7))^^^ca (u.getD (t-15) 0) (aD (-18))^^^u.getD (t-15) 0>>>3)+u.getD (t-7) 0+(ca (u.getD (t-2) 0) (aD (-17))^^^ca (u.getD (t-2) 0) (aD (-19))^^^u.getD (t-2) 0>>>10)
def av(l:List W8):Nat→List cm
 | 0=>Ox l
 | k+1=>(av l k).set (16+k) (ui (av l k) (16+k))
theorem fI(l:List W8):∀ k,(av l k).length=64
 | 0=>Km l
 | k+1=>by simp [av,fI l k]
structure S8 where
 a:cm
 b:cm
 c:cm
 d:cm
 e:cm
 f:cm
 g:cm
 h:cm
def S8.cells(s:S8):List Value:=[aI s.a,aI s.b,aI s.c,aI s.d,aI s.e,aI s.f,aI s.g,aI s.h]
def sig(x:cm)(a b c:Int):cm:=ca x (aD (-a))^^^ca x (aD (-b))^^^ca x (aD (-c))
def S8.p(s:S8)(k w:cm):cm:=s.h+sig s.e 6 11 25+(s.g^^^(s.e&&&(s.f^^^s.g)))+k+w
def S8.q(s:S8):cm:=sig s.a 2 13 22+((s.a&&&s.b)|||(s.c&&&(s.a|||s.b)))
def S8.jM(s:S8)(k w:cm):S8:=⟨s.p k w+s.q,s.a,s.b,s.c,s.d+s.p k w,s.e,s.f,s.g⟩
def ct:List cm:=[0x428a2f98,0x71374491,0xb5c0fbcf,0xe9b5dba5,0x3956c25b,0x59f111f1,0x923f82a4,0xab1c5ed5,0xd807aa98,0x12835b01,0x243185be,0x550c7dc3,0x72be5d74,0x80deb1fe,0x9bdc06a7,0xc19bf174,0xe49b69c1,0xefbe4786,0x0fc19dc6,0x240ca1cc,0x2de92c6f,0x4a7484aa,0x5cb0a9dc,0x76f988da,0x983e5152,0xa831c66d,0xb00327c8,0xbf597fc7,0xc6e00bf3,0xd5a79147,0x06ca6351,0x14292967,0x27b70a85,0x2e1b2138,0x4d2c6dfc,0x53380d13,0x650a7354,0x766a0abb,0x81c2c92e,0x92722c85,0xa2bfe8a1,0xa81a664b,0xc24b8b70,0xc76c51a3,0xd192e819,0xd6990624,0xf40e3585,0x106aa070,0x19a4c116,0x1e376c08,0x2748774c,0x34b0bcb5,0x391c0cb3,0x4ed8aa4a,0x5b9cca4f,0x682e6ff3,0x748f82ee,0x78a5636f,0x84c87814,0x8cc70208,0x90befffa,0xa4506ceb,0xbef9a3f7,0xc67178f2]
def wz(ws:List cm)(s:S8):Nat→S8
 | 0=>s
 | k+1=>(wz ws s k).jM (ct.getD k 0) (ws.getD k 0)
def bK(s:S8)(l:List W8):S8:=let v:=wz (av l 48) s 64;⟨s.a+v.a,s.b+v.b,s.c+v.c,s.d+v.d,s.e+v.e,s.f+v.f,s.g+v.g,s.h+v.h⟩
section
variable {C:SX.Cx}{ρ:List Value}{α:Nat→SX.AV}
theorem iC{c i:SX.V}{u:List cm}{k:Nat}(hc:SX.ae (c.den ρ α)=u.map aI)(hi:i.den ρ α=.int .i64 (k:Int))(hk:k<u.length):SX.cZ.rel C ρ α (.relem 1 0) [c,i] (aI (u.getD k 0)):=by
 refine⟨?_,?_⟩
 ·rw [hc,hi]
  refine⟨ab,?_⟩
  simp only [List.length_map,Nat.div_one]
  omega
 rw [hc,hi]
 simp [SX.idxOf,List.getD_eq_getElem?_getD,List.getElem?_eq_getElem hk]
theorem KH{c i x:SX.V}{u:List cm}{k:Nat}{y:cm}(hc:SX.ae (c.den ρ α)=u.map aI)(hi:i.den ρ α=.int .i64 (k:Int))(hx:x.den ρ α=aI y)(hk:k<u.length):SX.cZ.rel C ρ α (.rset 1 0) [c,i,x] (.agg ((u.set k y).map aI).toArray):=by
 refine⟨?_,ai,?_⟩
 ·rw [hc,hi]
  refine⟨ab,?_⟩
  simp only [List.length_map,Nat.div_one]
  omega
 rw [hc,hi]
 simp only [SX.idxOf,Int.toNat_natCast,Nat.mul_one,Nat.add_zero,SX.ah,hx,List.length_cons,List.length_nil,Nat.zero_add]
 congr 2
 rw [List.map_set,List.set_eq_take_append_cons_drop,if_pos (af hk)]
 simp
theorem tq{vals:List SX.V}{v0:SX.V}{m N:Nat}{t:Value}{cs:List Value}(hv:vals=v0::(List.range N).map fun j=>SX.V.x m [j])(h0:v0.den ρ α=t)(hm:ρ.getD m undef=.agg cs.toArray)(hl:cs.length=N):SX.ah ρ α vals=t::cs:=by
 subst hv
 have:=SX.w5 (ρ:=ρ) (α:=α) (u:=undef) (path:=[]) (m:=m) (N:=N) (cs:=cs) (by rw [List.foldl_nil];exact hm) hl
 simp only [List.nil_append]at this
 simp only [SX.ah,h0,this]
end
theorem bW{C:SX.Cx}{w0:fB}{ps:List (World→Prop)}{T0:List SX.TF}{R:Ending→World→Prop}{L:List (SX.Cx→List Value→Prop)}{ρ:List Value}{l:Nat}{vals:List SX.V}{I:List Value→Prop}{μ:List Value→Nat}{m0:Nat}(hL:L.getD l (fun(_:SX.Cx)(_:List Value)=>False)=fun(_:SX.Cx)(ys:List Value)=>I ys∧μ ys<m0)(h:∀ α,I (SX.ah ρ α vals))(hm:∀ α,μ (SX.ah ρ α vals)<m0):SX.VC C w0 ps T0 R L ρ (.again l vals) :=
 SX.bO fun α=>by rw [hL];exact⟨h α,hm α⟩
theorem Nl{n:Nat}(l:List cm)(h:l.length=n):(SX.Sh.ag n).fit (.agg (l.map aI).toArray)=true:=by
 simp only [SX.Sh.fit,List.length_map,h,beq_self_eq_true,Bool.true_and,List.all_eq_true]
 intro x hx
 obtain⟨y,-,rfl⟩:=List.mem_map.1 hx
 rfl
theorem GC(l:List cm)(h:l.length=64):∃ g:Nat→cm,l=(List.range 64).map g:=by
 refine⟨fun j=>l.getD j 0,?_⟩
 apply List.ext_getElem
 ·simp [h]
 intro j h1 h2
 simp [List.getD_eq_getElem?_getD,h1]
namespace SX
def k5(t0:TypeId)(sz:Nat):ak:=⟨[.x 0 []],t0,.row sz⟩
def o7(f:FuncId)(fn:Func)(args:List V)(sh:List Sh)(t0:TypeId)(sz:Nat):S:={ fr:=args.map some++List.replicate (fn.ntmps-args.length) (some (.k undef)),stk:=[],hp:=[some (k5 t0 sz)],ln:=[some (k5 t0 sz)],sh:=sh,kn:=[],lps:=[],cur:=f }
theorem sX{C:Cx}{G:kp}{R:Ending→World→Prop}{f:FuncId}{fn:Func}{body:Code}{args:List V}{sh:List Sh}{ρ:List Value}{w:World}{vals:Array Value}{h:Value}{b:Nat}{t0:TypeId}{b5 tl:List Value}{sz:Nat}(n:Nat)(t:Tree)(hC:C.Ok)(hf:C.P.funcs[f]?=some fn)(hb:fn.body=some body)
 (ht:(run C G n 0 (o7 f fn args sh t0 sz) [.code body,.top fn]).eS=t)
 (hd:(decide (args.length≤fn.ntmps) && dw [some (k5 t0 sz)] sh.length args && decide (0<sz) && decide (0<sh.length))=true) (hfit:Sh.dL sh ρ=true) (hρ:ρ.getD 0 undef=.agg b5.toArray) (hvals:(ah ρ (fun _=>⟨b,h,tl⟩) args).toArray=vals) (hrow:iP sz h b t0 b5 tl w) (hK:∀ W',bp (iA h) w W'→Kf C W')
 (h12:G.eO≠12) (hv:VC C ⟨w,iA h,Af C,Bf C⟩ [Kf C] [] R [] ρ t) (hN:C.N=[]∧C.nb≤w.heap.size:=by exact⟨rfl,Nat.zero_le _⟩):Calls C.P f vals w R:=by
 subst ht
 subst hvals
 replace hv:=dZ _ _ _ hv
 refine cY hf hb ?_
 simp only [Bool.and_eq_true,decide_eq_true_eq]at hd
 obtain⟨⟨⟨hle,hwa⟩,hsz⟩,hsh⟩:=hd
 obtain⟨hl,hg⟩:=kJ hfit
 have hxs:(k5 t0 sz).xs ρ (fun _=>⟨b,h,tl⟩)=b5:=by
  show [ρ.getD 0 undef].flatMap ae=b5
  rw [hρ];simp [ae]
 have hok:(k5 t0 sz).bB ρ (fun _=>⟨b,h,tl⟩) 0:=by
  show 0<sz∧_
  rw [hxs]
  rcases hrow with ⟨h1,h2⟩|⟨len,cap,h1,h2,h3,h4,h5,h6⟩
  ·exact⟨hsz,.inl ⟨h2,h1⟩⟩
  exact⟨hsz,.inr ⟨len,cap,h1,h2,h3,h4,h5⟩⟩
 have hone:∀ {i:Nat} {B:ak},([some (k5 t0 sz)]:List (Option ak))[i]?=some (some B)→i=0∧B=k5 t0 sz:=fun {i B} hi=>by
  cases i with
  | zero=>simp at hi;exact⟨rfl,hi.symm⟩
  | succ i=>simp at hi
 have hch:aU ρ (fun _=>⟨b,h,tl⟩) 0 [some (k5 t0 sz)]=(iA h).map fun _=>(⟨b,(b5++tl).toArray,t0⟩:Ch):=by
  rcases hrow with ⟨rfl,h2⟩|⟨len,cap,rfl,h2⟩
  ·rfl
  show([⟨b,((k5 t0 sz).xs ρ (fun _=>⟨b,_,tl⟩)++tl).toArray,t0⟩]:List Ch)=_
  rw [hxs]
  rfl
 have hob:∀ i∈iA h,i=b:=fun i hi=>by
  rcases hrow with ⟨rfl,h2⟩|⟨len,cap,rfl,h2⟩
  ·cases hi
  simpa [iA]using hi
 have hmu:bk (aU ρ (fun _=>⟨b,h,tl⟩) 0 [some (k5 t0 sz)]) []=iA h:=by
  rw [hch]
  rcases hrow with ⟨rfl,h2⟩|⟨len,cap,rfl,h2⟩
  ·rfl
  rfl
 have hI:Inv ⟨w,iA h,Af C,Bf C⟩ [Kf C] [] ρ (o7 f fn args sh t0 sz) { tmps:=(ah ρ (fun _=>⟨b,h,tl⟩) args).toArray++Array.replicate (fn.ntmps-(ah ρ (fun _=>⟨b,h,tl⟩) args).toArray.size) undef,defers:=[] } w:=by
  refine⟨fun _=>⟨b,h,tl⟩,⟨nofun,rfl⟩,⟨hl,hg,fun e he=>nomatch he⟩,⟨fun v hv'=>?_,fun f hf=>(nomatch hf),(fun b hb=>?_),(fun b hb=>?_)⟩,⟨by simp [o7,aq],fun d v hd'=>?_⟩,trivial,?_,?_,?_⟩
  ·rcases List.mem_append.1 hv' with h|h
   ·obtain⟨u,hu,e⟩:=List.mem_map.1 h
    obtain rfl:u=v:=af e
    rw [← hl]
    exact dF hwa u hu
   ·have:=List.eq_of_mem_replicate h
    cases this
    rfl
  ·obtain rfl:b=k5 t0 sz:=by simpa [o7]using hb
   rw [← hl];simp [k5,dw,V.wf,hsh]
  ·obtain rfl:b=k5 t0 sz:=by simpa [o7]using hb
   rw [← hl];simp [k5,dw,V.wf,hsh]
  ·rw [Array.getElem?_append]
   simp only [List.size_toArray,aq]
   simp only [o7]at hd'
   by_cases hlt:d<args.length
   ·rw [List.getElem?_append_left (af hlt),List.getElem?_map,List.getElem?_eq_getElem hlt]at hd'
    simp only [Option.map_some,Option.some.injEq]at hd'
    rw [if_pos hlt]
    simpa using dC (ρ:=ρ) (α:=fun _=>⟨b,h,tl⟩) (by rw [List.getElem?_eq_getElem hlt,hd'])
   rw [List.getElem?_append_right (af hlt),List.getElem?_replicate]at hd'
   rw [if_neg hlt,Array.getElem?_replicate]
   simp only [List.length_map]at hd'
   split at hd'
   ·rename_i h9
    rw [if_pos h9]
    cases hd'
    rfl
   cases hd'
  ·refine⟨⟨rfl,rfl,rfl,Nat.le_refl _,fun _ _ _=>rfl⟩,fun e he=>?_,(fun _ h=>nomatch h),?_,fun p hp W' hW=>?_⟩
   ·have he:e∈aU ρ (fun _=>⟨b,h,tl⟩) 0 [some (k5 t0 sz)]:=he
    rw [hch]at he
    obtain⟨i,hi,rfl⟩:=List.mem_map.1 he
    have hib:=hob i hi
    subst hib
    refine⟨.inr hi,?_⟩
    rcases hrow with ⟨rfl,h2⟩|⟨len,cap,rfl,h2,h3,h4,h5,h6⟩
    ·cases hi
    exact h6
   ·show(bk (aU ρ (fun _=>⟨b,h,tl⟩) 0 [some (k5 t0 sz)]) []).Nodup
    rw [hmu]
    rcases hrow with ⟨rfl,h2⟩|⟨len,cap,rfl,h2⟩
    ·exact List.nodup_nil
    simp [iA]
   have hp:p=Kf C:=by
    rcases List.mem_append.1 hp with hp|hp
    ·obtain⟨i,B,h1,h2⟩:=cL.1 hp
     obtain⟨rfl,rfl⟩:=hone h1
     rw [ak.kR rfl]at h2
     cases h2
    simpa using hp
   subst hp
   refine hK W' ?_
   rw [← hmu]
   exact hW
  ·intro i B hi
   obtain⟨rfl,rfl⟩:=hone hi
   exact⟨cX.2 ⟨k5 t0 sz,rfl⟩,hok⟩
  intro i B hi
  obtain⟨rfl,rfl⟩:=hone hi
  exact hok.len
 have:=rV hC n ⟨w,iA h,Af C,Bf C⟩ [] R G 0 (o7 f fn args sh t0 sz) [.code body,.top fn] [] [] [] ρ _ w (fun h=>absurd h h12) ⟨List.mem_cons_self ..,fun _ h=>h,fun _ h=>h,hN.2,.inl hN.1⟩ hv rfl rfl hI
 exact this
theorem sZ{C:Cx}{G:kp}{R:Ending→World→Prop}{f:FuncId}{fn:Func}{body:Code}{args:List V}{sh:List Sh}{ρ:List Value}{w:World}{vals:Array Value}{bs:List Nat}{bl:List ak}(n:Nat)(t:Tree)(hC:C.Ok)(hf:C.P.funcs[f]?=some fn)(hb:fn.body=some body)
 (ht:(run C G n 0 { fr:=args.map some++List.replicate (fn.ntmps-args.length) (some (.k undef)),stk:=[(List.range bl.length).map fun n=>some (.p n 0)],hp:=bl.map some,ln:=bl.map some,sh:=sh,kn:=[],lps:=[],cur:=f } [.code body,.top fn]).eS=t)
 (hd:(decide (args.length≤fn.ntmps) && dw (bl.map some) sh.length args && bl.all fun b=>dw (bl.map some) sh.length b.c && decide (b.k=.cells))=true) (hfit:Sh.dL sh ρ=true) (hvals:(ah ρ (fun n=>⟨bs.getD n 0,undef,[]⟩) args).toArray=vals) (hK:∀ W',bp bs w W'→Kf C W')
 (hnd:bs.Nodup) (hl:bs.length=bl.length) (hbl:∀ (i b:Nat) (B:ak),bs[i]?=some b→bl[i]?=some B→w.heap[b]?=some (.cells (ah ρ (fun n=>⟨bs.getD n 0,undef,[]⟩) B.c).toArray B.t (0,0)))
 (h12:G.eO≠12) (hv:VC C ⟨w,bs,Af C,Bf C⟩ [Kf C] [⟨(bs.map fun b=>Value.pointer (some ⟨b,0,none⟩)).toArray,[],none⟩] R [] ρ t) (hN:C.N=[]∧C.nb≤w.heap.size:=by exact⟨rfl,Nat.zero_le _⟩):Calls C.P f vals w R:=by
 subst ht
 subst hvals
 replace hv:=dZ _ _ _ hv
 refine cY hf hb ?_
 simp only [Bool.and_eq_true,decide_eq_true_eq]at hd
 obtain⟨⟨hle,hwa⟩,hwb⟩:=hd
 obtain⟨hlg,hg⟩:=kJ hfit
 have hb1:∀ B∈bl,dw (bl.map some) ρ.length B.c=true∧B.k=.cells:=fun B hB=>by
  have:=List.all_eq_true.1 hwb B hB
  simp only [Bool.and_eq_true,decide_eq_true_eq]at this
  rw [← hlg];exact this
 have hat:∀ (i:Nat) (B:ak),(bl.map some)[i]?=some (some B)→bl[i]?=some B:=fun i B h=>af h
 have hgd:∀ i,i<bl.length→bs[i]?=some (bs.getD i 0):=fun i hi=>by
  rw [List.getD_eq_getElem?_getD,List.getElem?_eq_getElem ab];rfl
 have hch:∀ (i:Nat) (B:ak),bl[i]?=some B→B.ch ρ (fun n=>⟨bs.getD n 0,undef,[]⟩) i=some ⟨bs.getD i 0,(ah ρ (fun n=>⟨bs.getD n 0,undef,[]⟩) B.c).toArray,B.t⟩:=fun i B h=>by simp only [ak.ch,(hb1 B (List.mem_of_getElem? h)).2]
 have hlvb:∀ i,i<bl.length→SX.lv (bl.map some) i=true:=fun i hi=>cX.2 ⟨bl[i],by simp [hi]⟩
 have hids:∀ {l:List ak} {k:Nat} {α:Nat→AV},(∀ (i:Nat) (B:ak),l[i]?=some B→B.k=.cells)→(aU ρ α k (l.map some)).map (·.id)=(List.range' k l.length).map fun i=>(α i).b:=by
  intro l
  induction l with
  | nil=>intro k α _;simp [aU]
  | cons B l ih =>
   intro k α hk
   simp only [List.map_cons,aU,ak.ch,hk 0 B rfl,Option.toList_some,List.cons_append,List.nil_append,List.length_cons,List.range'_succ]
   rw [ih fun i B' h=>hk (i+1) B' (af h)]
 have hI:Inv ⟨w,bs,Af C,Bf C⟩ [Kf C] [⟨(bs.map fun b=>Value.pointer (some ⟨b,0,none⟩)).toArray,[],none⟩] ρ { fr:=args.map some++List.replicate (fn.ntmps-args.length) (some (.k undef)),stk:=[(List.range bl.length).map fun n=>some (.p n 0)],hp:=bl.map some,ln:=bl.map some,sh:=sh,kn:=[],lps:=[],cur:=f } { tmps:=(ah ρ (fun n=>⟨bs.getD n 0,undef,[]⟩) args).toArray++Array.replicate (fn.ntmps-(ah ρ (fun n=>⟨bs.getD n 0,undef,[]⟩) args).toArray.size) undef,defers:=[] } w:=by
  refine⟨fun n=>⟨bs.getD n 0,undef,[]⟩,⟨nofun,nofun,rfl⟩,⟨hlg,hg,fun e he=>nomatch he⟩,⟨fun v hv'=>?_,fun fr hfr=>?_,fun b hb=>?_,fun b hb=>?_⟩,⟨by simp [aq],fun d v hd'=>?_⟩,⟨⟨by simp [hl],fun d v hd'=>?_⟩,trivial⟩,?_,?_,?_⟩
  ·rcases List.mem_append.1 hv' with h|h
   ·obtain⟨u,hu,e⟩:=List.mem_map.1 h
    obtain rfl:u=v:=af e
    rw [← hlg]
    exact dF hwa u hu
   ·have:=List.eq_of_mem_replicate h
    cases this
    rfl
  ·obtain rfl:=List.mem_singleton.1 hfr
   intro v hv'
   obtain⟨i,hi,e⟩:=List.mem_map.1 hv'
   cases e
   exact hlvb i (List.mem_range.1 hi)
  ·obtain⟨B,hB,e⟩:=List.mem_map.1 hb
   cases e
   exact(hb1 _ hB).1
  ·obtain⟨B,hB,e⟩:=List.mem_map.1 hb
   cases e
   exact(hb1 _ hB).1
  ·rw [Array.getElem?_append]
   simp only [List.size_toArray,aq]
   simp only at hd'
   by_cases hlt:d<args.length
   ·rw [List.getElem?_append_left (af hlt),List.getElem?_map,List.getElem?_eq_getElem hlt]at hd'
    simp only [Option.map_some,Option.some.injEq]at hd'
    rw [if_pos hlt]
    simpa using dC (ρ:=ρ) (α:=fun n=>⟨bs.getD n 0,undef,[]⟩) (by rw [List.getElem?_eq_getElem hlt,hd'])
   rw [List.getElem?_append_right (af hlt),List.getElem?_replicate]at hd'
   rw [if_neg hlt,Array.getElem?_replicate]
   simp only [List.length_map]at hd'
   split at hd'
   ·rename_i h9
    rw [if_pos h9]
    cases hd'
    rfl
   cases hd'
  ·simp only [List.getElem?_map,Option.map_eq_some_iff]at hd'
   obtain⟨i,hi,e⟩:=hd'
   cases e
   have hil:d<bl.length:=by have:=(List.getElem?_eq_some_iff.1 hi).1;simpa using this
   obtain rfl:d=i:=by simpa [hil]using hi
   simp only [List.getElem?_toArray,List.getElem?_map,hgd d hil,Option.map_some,V.den]
  ·refine⟨⟨rfl,rfl,rfl,Nat.le_refl _,fun _ _ _=>rfl⟩,fun e he=>?_,(fun _ h=>nomatch h),?_,fun p hp W' hW=>?_⟩
   ·obtain⟨i,B,h1,h2⟩:=iR he
    rw [Nat.zero_add]at h2
    have hB:=hat i B h1
    rw [hch i B hB]at h2
    cases h2
    have hil:=(List.getElem?_eq_some_iff.1 hB).1
    refine⟨.inr (List.mem_of_getElem? (hgd i hil)),?_⟩
    have:=hbl i _ B (hgd i hil) hB
    exact this
   ·show((aU ρ (fun n=>⟨bs.getD n 0,undef,[]⟩) 0 (bl.map some)).map Ch.id++[]).Nodup
    rw [List.append_nil,hids fun i B h=>(hb1 B (List.mem_of_getElem? h)).2]
    have:(List.range' 0 bl.length).map (fun i=>bs.getD i 0)=bs:=by
     apply List.ext_getElem?
     intro i
     by_cases hi:i<bl.length
     ·rw [List.getElem?_map,List.getElem?_range' hi,hgd i hi];simp
     rw [List.getElem?_eq_none (af hi),List.getElem?_eq_none ab]
    rw [this]
    exact hnd
   have hmu:bk (aU ρ (fun n=>⟨bs.getD n 0,undef,[]⟩) 0 (bl.map some)) []=bs:=by
    show(aU ρ (fun n=>⟨bs.getD n 0,undef,[]⟩) 0 (bl.map some)).map Ch.id++[]=bs
    rw [List.append_nil,hids fun i B h=>(hb1 B (List.mem_of_getElem? h)).2]
    apply List.ext_getElem?
    intro i
    by_cases hi:i<bl.length
    ·rw [List.getElem?_map,List.getElem?_range' hi,hgd i hi];simp
    rw [List.getElem?_eq_none (af hi),List.getElem?_eq_none ab]
   have hp:p=Kf C:=by
    rcases List.mem_append.1 hp with hp|hp
    ·obtain⟨i,B,h1,h2⟩:=cL.1 hp
     rw [ak.kR (by simp [ak.own,(hb1 B (List.mem_of_getElem? (hat i B h1))).2])]at h2
     cases h2
    simpa using hp
   subst hp
   exact hK W' (by rw [← hmu];exact hW)
  ·intro i B h
   have hB:=hat i B h
   exact⟨hlvb i (List.getElem?_eq_some_iff.1 hB).1,by simp only [ak.bB,(hb1 B (List.mem_of_getElem? hB)).2]⟩
  intro i B h
  have hB:=hat i B h
  simp only [ak.kw,(hb1 B (List.mem_of_getElem? hB)).2]
 have:=rV hC n ⟨w,bs,Af C,Bf C⟩ [⟨(bs.map fun b=>Value.pointer (some ⟨b,0,none⟩)).toArray,[],none⟩] R G 0 _ [.code body,.top fn] _ [] [] ρ _ w (fun h=>absurd h h12) ⟨List.mem_cons_self ..,fun _ h=>h,fun _ h=>h,hN.2,.inl hN.1⟩ hv rfl rfl hI
 exact this
theorem NR{w W:World}{rt:World→Prop}{rf:Nat→Prop}{hp:List (Option ak)}{ps:List (World→Prop)}{ρ:List Value}{α:Nat→AV}{sz:Nat}{ms:List Nat}(hS:St ⟨w,ms,rt,rf⟩ (aU ρ α 0 hp) [] ps W){n:Nat}{b:ak}(hb:hp[n]?=some (some b))(hk:b.k=.row sz)(hr:b.bB ρ α n){cells:List Value}(hc:b.xs ρ α=cells) :
 ∃ h' b' tl',Ending.returned ((V.row n).den ρ α)=.returned h'∧W.os=w.os∧W.tape=w.tape∧W.output=w.output∧bp ms w W∧iP sz h' b' b.t cells tl' W∧(b'∈ms∨w.heap.size≤b'):=by
 subst hc
 have hsame:bp ms w W:=⟨hS.b5.size,fun k hk hn=>hS.b5.block k hk hn⟩
 unfold ak.bB at hr
 rw [hk]at hr
 obtain⟨h0,⟨h1,h2⟩|⟨len,cap,h1,h2,h3,h4,h5⟩⟩:=hr
 ·exact⟨(α n).h,w.heap.size,[],rfl,hS.b5.os,hS.b5.tape,hS.b5.output,hsame,.inl ⟨h2,h1⟩,.inr (Nat.le_refl _)⟩
 have hm:(⟨(α n).b,(b.xs ρ α++(α n).tl).toArray,b.t⟩:Ch)∈aU ρ α 0 hp:=dk (k:=0) hb (by simp only [ak.ch,hk,Nat.zero_add,h1])
 exact⟨(α n).h,(α n).b,(α n).tl,rfl,hS.b5.os,hS.b5.tape,hS.b5.output,hsame,.inr ⟨len,cap,h1,h2,h3,h4,h5,hS.at_ hm⟩,(hS.DF hm).symm.imp id id⟩
end SX
theorem Ou(x y:W8):SX.aZ .or (w8 x) (w8 y)=some (w8 (x|||y)):=by
 have h:(BitVec.ofInt 8 (x.toNat:Int))=x:=by apply BitVec.eq_of_toNat_eq;simp
 have h':(BitVec.ofInt 8 (y.toNat:Int))=y:=by apply BitVec.eq_of_toNat_eq;simp
 simp only [SX.aZ,w8,if_true,IntKind.bits,h,h',wrap_u8,BitVec.ofNat_toNat,BitVec.setWidth_eq]
 rfl
theorem Mg(x n:Nat)(hn:n<64):SX.aZ .shr (.int .u64 (x:Int)) (.int .u64 (n:Int))=some (.int .u64 ((x / 2 ^ n:Nat):Int)):=by
 have h1:¬ ((n:Int)<0):=ab
 have h2:min n 64=n:=ab
 simp only [SX.aZ,h1,if_false,Int.toNat_natCast,IntKind.bits,h2]
 congr 2
 rw [show((2:Int) ^ n)=((2 ^ n:Nat):Int) by simp,Int.fdiv_eq_ediv_of_nonneg _ (Int.natCast_nonneg _)]
 exact(Int.natCast_ediv _ _).symm
def bZ(u:Nat):List W8:=if u<128 then [BitVec.ofNat 8 u]else(BitVec.ofNat 8 u|||128#8)::bZ (u / 128)
theorem dE{u:Nat}(h:u<128):bZ u=[BitVec.ofNat 8 u]:=by rw [bZ,if_pos h]
theorem qi{u:Nat}(h:¬ u<128):bZ u=(BitVec.ofNat 8 u|||128#8)::bZ (u / 128):=by rw [bZ,if_neg h]
theorem cU:∀ (k u:Nat),u<128 ^ (k+1)→(bZ u).length≤k+1
 | 0,u,h=>by rw [dE (af h)];simp
 | k+1,u,h=>by
  by_cases h1:u<128
  ·rw [dE h1];simp
  rw [qi h1,List.length_cons]
  have:=cU k (u / 128) (by rw [Nat.pow_succ]at h;omega)
  omega
theorem w6(b:W8):∀ u∈c8 b,u.oneCell'=true:=by
 intro u hu
 obtain rfl:u=w8 b:=by simpa [c8]using hu
 rfl
def xu:List SX.V:=[.row 0,.x 1 []]
def sC:SX.Tree :=
(.loop [(.q 1),(.cat [(.q 0)])] [.one,.any]
(.df (.bin .geq 140) [(.q 2),(.k (.int .u64 128))] .one
(.br 4 []
(.df (.conv .u8) [(.q 2)] .one
(.df (.bin .or 5) [(.q 5),(.k (.int .u8 128))] .one
(.df (.dN 1 1 (.own 1 [(.q 6)])) [(.cat [(.q 3)]),(.sl 3 0 1 1)] .any
(.df (.bin .shr 140) [(.q 2),(.k (.int .u64 7))] .one
(.again 0 [(.q 8),(.cat [(.q 3),(.q 7)])])))))
(.df (.conv .u8) [(.q 2)] .one
(.df (.dN 1 1 (.own 1 [(.q 5)])) [(.cat [(.q 3)]),(.sl 3 0 1 1)] .any
(.ret (.row 4) [none,none,none,none,(some ⟨[(.q 3),(.q 6)],5,(.row 1)⟩)] []))))))
theorem J6(K A:SX.QV):(SX.run (sU K A) ⟨fun f=>true,[⟨132,1,[(.s 1,.one),(.s 0,.row 1 5)]⟩],2,100⟩ 100000 0 (SX.o7 132 Tryz.f132 xu [.any,.one] 5 1) [.code (Tryz.f132.body.getD .skip),.top Tryz.f132]).eS=sC:=aa
theorem yr(b5:List W8)(u:Nat)(w:World)(h:Value)(b:Nat)(tl:List Value)(hu:u<18446744073709551616)(ho:b5.length≤70368744177664)(hrow:iP 1 h b 5 (b5.flatMap c8) tl w) :
 Calls Tryz.prog 132 #[h,.int .u64 (u:Int)] w fun e w'=>∃ h' b' tl',e=.returned h'∧w'.os=w.os∧w'.tape=w.tape∧w'.output=w.output∧bp (iA h) w w'∧iP 1 h' b' 5 ((b5++bZ u).flatMap c8) tl' w'∧(b'∈iA h∨w.heap.size≤b'):=by
 refine SX.sX (C:=sU SX.QW SX.QW) (G:=⟨fun f=>true,[⟨132,1,[(.s 1,.one),(.s 0,.row 1 5)]⟩],2,100⟩) (args:=xu) (sh:=[.any,.one]) (ρ:=[.agg (b5.flatMap c8).toArray,.int .u64 (u:Int)]) 100000 sC (fo _ _) Tryz.func132 rfl (J6 _ _) aa aa rfl aa hrow (fun W _=>SX.cD (fun _ _ _ h=>h) W) aj ?_
 unfold sC
 have hlen:=cU 9 u ab
 refine SX.ck (fun xs=>∃ (v:Nat) (acc:List W8),xs=[.int .u64 (v:Int),.agg (acc.flatMap c8).toArray]∧v≤u∧acc++bZ v=b5++bZ u) (fun xs=>match xs with|.int _ v::_=>v.toNat|_=>0) (fun α=>⟨u,b5,Eq.trans (b:=[.int .u64 (u:Int),.agg ([Value.agg (b5.flatMap c8).toArray].flatMap SX.ae).toArray]) aa (by simp [SX.ae]),Nat.le_refl _,rfl⟩) ?_
 rintro xs-⟨v,acc,rfl,hv,hacc⟩
 have hal:acc.length≤b5.length+10:=by
  have:=congrArg List.length hacc
  simp only [List.length_append]at this
  omega
 refine SX.QB (.bool (decide ((v:Int)≥128))) ?_
 refine SX.QD (decide ((v:Int)≥128)) (fun h4=>?_) (fun h4=>?_)
 ·have h4:¬ v<128:=by have:=of_decide_eq_true h4;omega
  refine SX.QF (w8 (BitVec.ofNat 8 v)) (u5 v .u64) ?_
  refine SX.QF (w8 (BitVec.ofNat 8 v|||128#8)) (Ou (BitVec.ofNat 8 v) 128#8) ?_
  refine SX.QC (Value.agg (([BitVec.ofNat 8 v|||128#8]).flatMap c8).toArray) (fun α=>SX.az (f:=c8) (l1:=acc) (l2:=[BitVec.ofNat 8 v|||128#8]) al w6 aj (SX.bz aa) (SX.aS aa) (by simp only [LL];omega) (by simp only [LL];omega)) ?_
  refine SX.QC (.int .u64 ((v / 128:Nat):Int)) (fun α=>Eq.trans (b:=SX.aZ .shr (.int .u64 (v:Int)) (.int .u64 ((7:Nat):Int))) aa (Mg v 7 ab)) ?_
  exact SX.bO fun α=>⟨⟨v / 128,acc++[BitVec.ofNat 8 v|||128#8],Eq.trans (b:=[.int .u64 ((v / 128:Nat):Int),.agg ([Value.agg (acc.flatMap c8).toArray,Value.agg (([BitVec.ofNat 8 v|||128#8]).flatMap c8).toArray].flatMap SX.ae).toArray]) aa (by simp [SX.ae]),ab,by rw [← hacc,qi h4];simp⟩,cast aa (show((v / 128:Nat):Int).toNat<(v:Int).toNat by omega)⟩
 have h4:v<128:=by have:=of_decide_eq_false h4;omega
 refine SX.QF (w8 (BitVec.ofNat 8 v)) (u5 v .u64) ?_
 refine SX.QC (Value.agg (([BitVec.ofNat 8 v]).flatMap c8).toArray) (fun α=>SX.az (f:=c8) (l1:=acc) (l2:=[BitVec.ofNat 8 v]) al w6 aj (SX.bz aa) (SX.aS aa) (by simp only [LL];omega) (by simp only [LL];omega)) ?_
 exact SX.aK fun α W _ hR hS=>SX.NR hS (n:=4) (b:=(⟨[(.x 3 []),(.x 6 [])],5,(.row 1)⟩:SX.ak)) aa rfl (hR 4 _ aa) (Eq.trans (b:=[Value.agg (acc.flatMap c8).toArray,Value.agg (([BitVec.ofNat 8 v]).flatMap c8).toArray].flatMap SX.ae) aa (by rw [← hacc,dE h4];simp [SX.ae]))
theorem mK{C:SX.Cx}(hP:C.P=Tryz.prog){rw':List SX.Rw}{b5:List W8}{u:Nat}(hu:u<18446744073709551616)(ho:b5.length≤70368744177664):SX.mY C 132 rw' [⟨.int .u64 (u:Int),0,[]⟩] (b5.flatMap c8) 1 5 (.agg ((b5++bZ u).flatMap c8).toArray):=by
 intro W h b tl hrow hrd hK hpl
 rw [hP]
 exact yr b5 u W h b tl hu ho hrow
inductive Fl where
 | n (k:Int)
 | s (b:ByteArray)
def aR:Fl→List Value
 | .n k=>[.int .i64 1,.int .i64 k,.string ⟨#[]⟩,.slice none 0 0]
 | .s b=>[.int .i64 2,.int .i64 0,.string b,.slice none 0 0]
def jH(z:Fl):Value:=.agg (aR z).toArray
def Fl.fits:Fl→Prop
 | .n k=>-9223372036854775808≤k∧k≤9223372036854775807
 | .s b=>b.size≤1048576
theorem aY(z:Fl):(aR z).length=4:=by cases z<;>rfl
theorem bM(z:Fl):∀ u∈aR z,u.oneCell'=true:=by
 intro u hu
 cases z<;>simp only [aR,List.mem_cons,List.not_mem_nil,or_false]at hu<;>rcases hu with rfl|rfl|rfl|rfl<;>rfl
def gS(l:List Fl):List Value:=l.flatMap aR
theorem gT(l:List Fl):(gS l).length=l.length*4:=SX.aL (f:=aR) aY l
def eX(k:Int):Nat:=if 0≤k then(2*k).toNat else(-2*k-1).toNat
theorem lZ{k:Int}(h1 : -9223372036854775808≤k)(h2:k≤9223372036854775807):eX k<18446744073709551616:=by
 unfold eX;split<;>omega
theorem eZ(x:Int):IntKind.u64.wrap x=x % 18446744073709551616:=by simp [IntKind.wrap,IntKind.signed,IntKind.bits]
theorem xor_zero(n:Nat)(h:n<18446744073709551616):SX.aZ .xor (.int .u64 (n:Int)) (.int .u64 (0:Int))=some (.int .u64 (n:Int)):=by
 have e:(BitVec.ofInt 64 (n:Int))=BitVec.ofNat 64 n:=by apply BitVec.eq_of_toNat_eq;simp
 simp only [SX.aZ,if_true,IntKind.bits,e]
 congr 2
 rw [eZ]
 have:(BitVec.ofNat 64 n^^^BitVec.ofInt 64 0).toNat=n:=aw
 show((BitVec.ofNat 64 n^^^BitVec.ofInt 64 0).toNat:Int) % 18446744073709551616=(n:Int)
 rw [this];omega
theorem IL(n:Nat)(h:n<18446744073709551616):SX.aZ .xor (.int .u64 (n:Int)) (.int .u64 (18446744073709551615:Int))=some (.int .u64 ((18446744073709551615-n:Nat):Int)):=by
 have e:(BitVec.ofInt 64 (n:Int))=BitVec.ofNat 64 n:=by apply BitVec.eq_of_toNat_eq;simp
 have e2:(BitVec.ofInt 64 (18446744073709551615:Int))=BitVec.allOnes 64:=aj
 simp only [SX.aZ,if_true,IntKind.bits,e,e2]
 congr 2
 rw [eZ]
 have:(BitVec.ofNat 64 n^^^BitVec.allOnes 64).toNat=18446744073709551615-n:=by
  rw [BitVec.xor_allOnes,BitVec.toNat_not,BitVec.toNat_ofNat]
  omega
 show((BitVec.ofNat 64 n^^^BitVec.allOnes 64).toNat:Int) % 18446744073709551616=((18446744073709551615-n:Nat):Int)
 rw [this];omega
theorem J8(n:Nat):SX.aZ .shl (.int .u64 (n:Int)) (.int .u64 (1:Int))=some (.int .u64 (((n*2) % 18446744073709551616:Nat):Int)):=by
 have h1:¬ ((1:Int)<0):=ab
 simp only [SX.aZ,h1,if_false,IntKind.bits]
 congr 2
theorem Ma(k:Int)(h1 : -9223372036854775808≤k)(h2:k≤9223372036854775807):SX.aZ .shr (.int .i64 k) (.int .u64 (63:Int))=some (.int .i64 (if 0≤k then 0 else -1)):=by
 have h3:¬ ((63:Int)<0):=ab
 have h4:min (63:Int).toNat 64=63:=aj
 simp only [SX.aZ,h3,if_false,IntKind.bits,h4]
 congr 2
 have e:((2:Int) ^ 63)=9223372036854775808:=aj
 rw [e,Int.fdiv_eq_ediv_of_nonneg _ aj]
 split<;>omega
def Dc:List SX.V:=[.x 0 []]
def uY:SX.Tree :=
(.df (.conv .u64) [(.q 0)] .one
(.df (.bin .shl 140) [(.q 1),(.k (.int .u64 1))] .one
(.df (.bin .shr 3) [(.q 0),(.k (.int .u64 63))] .one
(.df (.conv .u64) [(.q 3)] .one
(.df (.bin .xor 140) [(.q 2),(.q 4)] .one
(.ret (.q 5) [] []))))))
theorem HZ(K A:SX.QV):SX.QU (sU K A) ⟨fun f=>true,[],0,100⟩ 133 Tryz.f133 Dc [.one]=uY:=aa
theorem wP(k:Int)(w:World)(h1 : -9223372036854775808≤k)(h2:k≤9223372036854775807):RT 133 #[.int .i64 k] w (.int .u64 (eX k:Int)):=by
 refine SX.QG (HZ SX.QW SX.QW) [.int .i64 k] (fo _ _) Tryz.func133 (fun W _=>SX.cD (fun _ _ _ h=>h) W) ?_
 unfold uY
 obtain⟨m,hm⟩:∃ m:Nat,k % 18446744073709551616=(m:Int):=⟨(k % 18446744073709551616).toNat,ab⟩
 refine SX.QC (.int .u64 (m:Int)) (fun α=>Eq.trans (b:=some (.int .u64 (IntKind.u64.wrap k))) aa (by rw [eZ,hm])) ?_
 refine SX.QF (.int .u64 (((m*2) % 18446744073709551616:Nat):Int)) (J8 m) ?_
 refine SX.QF (.int .i64 (if 0≤k then 0 else -1)) (Ma k h1 h2) ?_
 by_cases h0:0≤k
 ·refine SX.QC (.int .u64 (0:Int)) (fun α=>Eq.trans (b:=some (.int .u64 (IntKind.u64.wrap (if 0≤k then 0 else -1)))) aa (by rw [if_pos h0,eZ];rfl)) ?_
  refine SX.QF (.int .u64 (((m*2) % 18446744073709551616:Nat):Int)) (xor_zero ((m*2) % 18446744073709551616) ab) ?_
  exact SX.QE (.int .u64 (((m*2) % 18446744073709551616:Nat):Int)) (by congr 1;unfold eX;rw [if_pos h0];omega)
 refine SX.QC (.int .u64 (18446744073709551615:Int)) (fun α=>Eq.trans (b:=some (.int .u64 (IntKind.u64.wrap (if 0≤k then 0 else -1)))) aa (by rw [if_neg h0,eZ];rfl)) ?_
 refine SX.QF (.int .u64 ((18446744073709551615-(m*2) % 18446744073709551616:Nat):Int)) (IL ((m*2) % 18446744073709551616) ab) ?_
 exact SX.QE (.int .u64 ((18446744073709551615-(m*2) % 18446744073709551616:Nat):Int)) (by congr 1;unfold eX;rw [if_neg h0];omega)
noncomputable def K1(K A:SX.QV):SX.Cx:={ sU K A with arr:=true }
theorem BU(K A:SX.QV):(K1 K A).Ok:=SX.Cx.b6 al fun _ f xs v W h=>h.elim
def so:SX.Tree :=
(.df (.bin .eql 3) [(.q 0),(.i 0)] .one
(.br 1 []
(.df (.bin .eql 3) [(.q 0),(.i 0)] .one
(.br 2 []
(.ret (.t [(.i 0),(.k (.bool true))]) [] [])
(.ret (.t [(.i 0),(.k (.bool true))]) [] [])))
(.df (.bin .eql 3) [(.q 0),(.i 0)] .one
(.br 2 []
(.ret (.t [(.i 0),(.k (.bool true))]) [] [])
(.ret (.t [(.i 0),(.k (.bool true))]) [] [])))))
def zG:List SX.V:=[.a [.k (.int .i64 1),.x 0 [],.k (.string ⟨#[]⟩),.k (.slice none 0 0)]]
theorem ED(K A:SX.QV):SX.QU (K1 K A) ⟨fun f=>true,[],0,100⟩ 130 Tryz.f130 zG [.one]=so:=aa
theorem DA(k:Int)(w:World)  : RT 130 #[.agg #[.int .i64 1,.int .i64 k,.string ⟨#[]⟩,.slice none 0 0]] w (.tuple #[.int .i64 0,.bool true]):=by
 refine SX.QG (ED SX.QW SX.QW) [.int .i64 k] (BU _ _) Tryz.func130 ?_ ?_
 ·exact fun W _=>SX.cD (fun _ _ _ h=>h) W
 unfold so
 refine SX.QB (.bool ((k:Int) == 0)) ?_
 refine SX.QD ((k:Int) == 0) (fun h1=>?_) (fun h1=>?_)
 ·try simp only [cb]at h1
  refine SX.QB (.bool ((k:Int) == 0)) ?_
  refine SX.QD ((k:Int) == 0) (fun h2=>?_) (fun h2=>?_)
  ·try simp only [cb]at h2
   exact SX.QE (.tuple #[.int .i64 0,.bool true]) (by rfl)
  try simp only [cb]at h2
  exact SX.QE (.tuple #[.int .i64 0,.bool true]) (by rfl)
 try simp only [cb]at h1
 refine SX.QB (.bool ((k:Int) == 0)) ?_
 refine SX.QD ((k:Int) == 0) (fun h2=>?_) (fun h2=>?_)
 ·try simp only [cb]at h2
  exact SX.QE (.tuple #[.int .i64 0,.bool true]) (by rfl)
 try simp only [cb]at h2
 exact SX.QE (.tuple #[.int .i64 0,.bool true]) (by rfl)
def sq:SX.Tree :=
(.df (.bin .eql 9) [(.q 0),(.k (.string ⟨#[]⟩))] .one
(.br 1 []
(.df (.bin .eql 9) [(.q 0),(.k (.string ⟨#[]⟩))] .one
(.ret (.t [(.i 0),(.k (.bool true))]) [] []))
(.df (.bin .eql 9) [(.q 0),(.k (.string ⟨#[]⟩))] .one
(.ret (.t [(.i 0),(.k (.bool true))]) [] []))))
def zH:List SX.V:=[.a [.k (.int .i64 2),.k (.int .i64 0),.x 0 [],.k (.slice none 0 0)]]
theorem EE(K A:SX.QV):SX.QU (K1 K A) ⟨fun f=>true,[],0,100⟩ 130 Tryz.f130 zH [.one]=sq:=aa
theorem DB(b:ByteArray)(w:World)  : RT 130 #[.agg #[.int .i64 2,.int .i64 0,.string b,.slice none 0 0]] w (.tuple #[.int .i64 0,.bool true]):=by
 refine SX.QG (EE SX.QW SX.QW) [.string b] (BU _ _) Tryz.func130 ?_ ?_
 ·exact fun W _=>SX.cD (fun _ _ _ h=>h) W
 unfold sq
 refine SX.QB (.bool (decide (b=⟨#[]⟩))) ?_
 refine SX.QD (decide (b=⟨#[]⟩)) (fun h1=>?_) (fun h1=>?_)
 ·try simp only [cb]at h1
  refine SX.QB (.bool (decide (b=⟨#[]⟩))) ?_
  exact SX.QE (.tuple #[.int .i64 0,.bool true]) (by rfl)
 try simp only [cb]at h1
 refine SX.QB (.bool (decide (b=⟨#[]⟩))) ?_
 exact SX.QE (.tuple #[.int .i64 0,.bool true]) (by rfl)
def P5(f:FuncId)(xs:List SX.Arg)(v:Value):Prop :=
 (f=130∧∃ z:Fl,xs=[⟨jH z,0,[]⟩]∧v=.tuple #[.int .i64 0,.bool true])
def NT:FuncId→Option SX.Sh:=fun f=>if f=130 then some (.tp [.one,.one])else none
noncomputable def MP(K A:SX.QV):SX.Cx:={ P:=Tryz.prog,R:=fun _=>P5,shp:=NT,K:=K,A:=A,arr:=true }
theorem Pe(K A:SX.QV):(MP K A).Ok:=by
 refine SX.Cx.b6 al ?_
 intro K f xs v W hR hrd hKf
 rcases hR with ⟨rfl,z,rfl,rfl⟩
 cases z with
 | n k=>exact(DA k W).mono fun e w' h=>SX.ay rfl h
 | s b=>exact(DB b W).mono fun e w' h=>SX.ay rfl h
def sr:SX.Tree :=
(.df (.len false) [(.q 0)] .one
(.df (.bin .eql 3) [(.q 1),(.i 0)] .one
(.df (.len false) [(.q 0)] .one
(.df (.bin .eql 3) [(.q 3),(.i 0)] .one
(.df (.len false) [(.q 0)] .one
(.loop [(.i 0),(.i 0)] [.one,.one]
(.df (.bin .lss 3) [(.q 6),(.q 5)] .one
(.br 8 []
(.df .bnd [(.q 0),(.q 6)] .one
(.df (.elems 4 0 4) [(.q 0),(.q 6)] (.ag 4)
(.df (.call 130 [.no]) [(.a (SX.QJ 10 0 4))] (.tp [.one,.one])
(.df .not [(.x 11 [1])] .one
(.br 12 []
(.ret (.t [(.i 0),(.k (.bool false))]) [] [])
(.df .max [(.q 7),(.x 11 [0])] .one
(.df (.bin .add 3) [(.q 6),(.i 1)] .one
(.again 0 [(.q 14),(.q 13)]))))))))
(.df (.bin .add 3) [(.q 7),(.i 1)] .one
(.ret (.t [(.q 9),(.k (.bool true))]) [] []))))))))))
def zI:List SX.V:=[.a [.k (.int .i64 3),.k (.int .i64 0),.k (.string ⟨#[]⟩),.x 0 []]]
theorem EF(K A:SX.QV):SX.QU (MP K A) ⟨fun f=>f != 130,[⟨130,7,[(.s 57,.one),(.s 2,.one)]⟩],0,100⟩ 130 Tryz.f130 zI [.one]=sr:=aa
theorem DC(fl:List Fl)(A:Option Addr)(n c:Nat)(w:World)(hr:Rd w 4 A n (gS fl))(hn:n≤9223372036854775807)(hc:n≤c):RT 130 #[.agg #[.int .i64 3,.int .i64 0,.string ⟨#[]⟩,.slice A n c]] w (.tuple #[.int .i64 1,.bool true]):=by
 refine SX.QG (EF (fun s sz cells=>s=.slice A n c∧sz=4∧cells=gS fl) SX.QW) [.slice A n c] (Pe _ _) Tryz.func130 ?_ ?_
 ·rintro W hW s sz cells ⟨rfl,rfl,rfl⟩;exact⟨hr.aJ hW,hc⟩
 have hA:=SX.rd_some hr
 have hln:fl.length=n:=by have:=hr.1;rw [gT]at this;omega
 unfold sr
 refine SX.QB (.int .i64 (((n:Nat):Int))) ?_
 refine SX.QB (.bool ((((n:Nat):Int):Int) == 0)) ?_
 refine SX.QB (.int .i64 (((n:Nat):Int))) ?_
 refine SX.QB (.bool ((((n:Nat):Int):Int) == 0)) ?_
 refine SX.QB (.int .i64 (((n:Nat):Int))) ?_
 refine SX.ck (fun xs=>∃ (i:Nat),xs=[.int .i64 (i:Int),.int .i64 0]∧i≤n) (fun xs=>match xs with|.int _ i::_=>n-i.toNat|_=>0) (fun α=>⟨0,aa,ab⟩) ?_
 rintro xs-⟨i,rfl,hin⟩
 refine SX.QB (.bool (decide (((i:Nat):Int)<((n:Nat):Int)))) ?_
 refine SX.QD (decide (((i:Nat):Int)<((n:Nat):Int))) (fun h8=>?_) (fun h8=>?_)
 ·try simp only [cb]at h8
  obtain⟨z,hz⟩:∃ z,fl[i]?=some z:=⟨_,List.getElem?_eq_getElem ab⟩
  refine SX.QM A n c i hA ab ?_
  refine SX.aO ((jH z)) (fun α=>SX.im (f:=aR) (l:=fl) (A:=A) (n:=n) (c:=c) (j:=i) (z:=z) aY hA aa aa ab ⟨rfl,rfl,rfl⟩ hz) ((by cases z<;>rfl)) ?_
  refine SX.QC (.tuple #[.int .i64 0,.bool true]) (fun α=>⟨[⟨jH z,0,[]⟩],⟨(by cases z<;>kernel_rfl),aa,trivial⟩,⟨rfl,z,rfl,rfl⟩,SX.ap rfl⟩) ?_
  refine SX.QB (.bool (!(true))) ?_
  refine SX.QD (!(true)) (fun h12=>absurd h12 ai) (fun h12=>?_)
  try simp only [cb]at h12
  refine SX.QB (.int .i64 0) ?_
  refine SX.QC (.int .i64 (((i+1:Nat):Int))) (fun α=>SX.QI i) ?_
  exact SX.bO fun α=>⟨⟨i+1,aa,ab⟩,cast aa (show n-((i+1:Nat):Int).toNat<n-(i:Int).toNat by omega)⟩
 try simp only [cb]at h8
 refine SX.QB (.int .i64 1) ?_
 exact SX.QE (.tuple #[.int .i64 1,.bool true]) (by rfl)
theorem jZ{W:World}{u:Value}{fl:List Fl}(h:SX.Arg.rd W ⟨u,4,gS fl⟩):∃ A n c,u=.slice A n c∧Rd W 4 A n (gS fl)∧n≤c∧fl.length=n:=by
 unfold SX.Arg.rd at h
 split at h
 ·rename_i A n c hu
  have hu:u=.slice A n c:=hu
  refine⟨A,n,c,hu,h.1,h.2,?_⟩
  have:=h.1.1;simp only [gT]at this;omega
 cases h
def P6(K:SX.QV)(f:FuncId)(xs:List SX.Arg)(v:Value):Prop :=
 (f=130∧∃ (u:Value) (fl:List Fl),xs=[⟨.agg #[.int .i64 3,.int .i64 0,.string ⟨#[]⟩,u],0,[]⟩]∧K u 4 (gS fl)∧fl.length≤9223372036854775807∧v=.tuple #[.int .i64 1,.bool true])
def NU:FuncId→Option SX.Sh:=fun f=>if f=130 then some (.tp [.one,.one])else none
noncomputable def MQ(K A:SX.QV):SX.Cx:={ P:=Tryz.prog,R:=P6,shp:=NU,K:=K,A:=A }
theorem Pf(K A:SX.QV):(MQ K A).Ok:=by
 refine SX.Cx.b6 al ?_
 intro K f xs v W hR hrd hKf
 rcases hR with ⟨rfl,u,fl,rfl,hku,hl,rfl⟩
 obtain⟨A,n,c,rfl,h2,h3,h4⟩:=jZ (hKf u 4 (gS fl) hku)
 exact(DC fl A n c W h2 ab h3).mono fun e w' h=>SX.ay rfl h
def pA:SX.Tree :=
(.df (.call 130 [.no]) [(.a [(.i 3),(.i 0),(.k (.string ⟨#[]⟩)),(.q 0)])] (.tp [.one,.one])
(.df .not [(.x 1 [1])] .one
(.br 2 []
(.ret (.i 1) [] [])
(.df (.bin .gtr 3) [(.x 1 [0]),(.i 16)] .one
(.br 3 []
(.ret (.i 2) [] [])
(.ret (.i 0) [] []))))))
def xn:List SX.V:=[.a [.k (.int .i64 3),.k (.int .i64 0),.k (.string ⟨#[]⟩),.x 0 []]]
theorem Be(K A:SX.QV):SX.QU (MQ K A) ⟨fun f=>true,[],0,100⟩ 112 Tryz.f112 xn [.one]=pA:=aa
theorem Ak(fl:List Fl)(A:Option Addr)(n c:Nat)(w:World)(hr:Rd w 4 A n (gS fl))(hn:n≤9223372036854775807)(hc:n≤c):RT 112 #[.agg #[.int .i64 3,.int .i64 0,.string ⟨#[]⟩,.slice A n c]] w (.int .i64 0):=by
 refine SX.QG (Be (fun s sz cells=>s=.slice A n c∧sz=4∧cells=gS fl) SX.QW) [.slice A n c] (Pf _ _) Tryz.func112 ?_ ?_
 ·rintro W hW s sz cells ⟨rfl,rfl,rfl⟩;exact⟨hr.aJ hW,hc⟩
 have hln:fl.length=n:=by have:=hr.1;rw [gT]at this;omega
 unfold pA
 refine SX.QC (.tuple #[.int .i64 1,.bool true]) (fun α=>⟨[⟨.agg #[.int .i64 3,.int .i64 0,.string ⟨#[]⟩,.slice A n c],0,[]⟩],SX.QP,⟨rfl,.slice A n c,fl,rfl,⟨rfl,rfl,rfl⟩,ab,rfl⟩,SX.ap rfl⟩) ?_
 refine SX.QB (.bool (!(true))) ?_
 refine SX.QD (!(true)) (fun h2=>absurd h2 ai) (fun h2=>?_)
 try simp only [cb]at h2
 refine SX.QB (.bool (decide (1>16))) ?_
 refine SX.QD (decide (1>16)) (fun h3=>absurd h3 aj) (fun h3=>?_)
 try simp only [cb]at h3
 exact SX.QE (.int .i64 0) (by rfl)
def OR(f:FuncId)(xs:List SX.Arg)(v:Value):Prop:=f=129∧∃ (x:cm) (a b c:Int),-a∈turns∧-b∈turns∧-c∈turns∧xs=[⟨aI x,0,[]⟩,⟨.int .i64 a,0,[]⟩,⟨.int .i64 b,0,[]⟩,⟨.int .i64 c,0,[]⟩]∧v=aI (sig x a b c)
def MD(f:FuncId)(xs:List SX.Arg)(v:Value):Prop:=f=127∧∃ (u:Value) (l:List W8),xs=[⟨u,1,l.flatMap c8⟩]∧4≤l.length∧l.length≤64∧v=aI (au l 0)
noncomputable def MO(K A:SX.QV):SX.Cx:={ P:=Tryz.prog,R:=fun _ f xs v=>Mw f xs v∨OR f xs v∨MD f xs v,shp:=fun f=>if f∈[128,129,127]then some .one else none,K:=K,A:=A,arr:=true,trm:=true }
theorem cT{W:World}{u:Value}{l:List W8}(h:SX.Arg.rd W ⟨u,1,l.flatMap c8⟩):∃ A n c,u=.slice A n c∧Rd W 1 A n (l.flatMap c8)∧n≤c∧l.length=n:=by
 unfold SX.Arg.rd at h
 split at h
 ·rename_i A n c hu
  have hu:u=.slice A n c:=hu
  refine⟨A,n,c,hu,h.1,h.2,?_⟩
  have:=h.1.1;rw [SX.aL aQ]at this;simp only at this;omega
 cases h
theorem K2(K A:SX.QV):(MO K A).Ok:=SX.Cx.b6 al fun _ f xs v W h hrd hK=>by
 rcases h with ⟨rfl,x,k,hk,rfl,rfl⟩|⟨rfl,x,a,b,c,ha,hb,hc,rfl,rfl⟩|⟨rfl,u,l,rfl,h4,h64,rfl⟩
 ·exact(yL x k hk W).mono fun e w' h=>SX.ay rfl h
 ·exact(yK x a b c ha hb hc W).mono fun e w' h=>SX.ay rfl h
 obtain⟨A,n,c,rfl,hr,hc,hn⟩:=cT (hrd ⟨u,1,l.flatMap c8⟩ ai)
 exact(IG l _ _ _ _ (KJ l h4) A n c W hr ab hc).mono fun e w' h=>SX.ay rfl h
theorem pg{a b d:Nat}(h:d+b=a)(ha:a≤1000):SX.aZ .sub (.int .i64 (a:Int)) (.int .i64 (b:Int))=some (.int .i64 (d:Int)):=by
 simp only [SX.aZ,om,if_true]
 rw [wrap_i64 ab ab]
 congr 2
 omega
theorem B7{a b d:Nat}(h:a+b=d)(ha:d≤1000):SX.aZ .add (.int .i64 (a:Int)) (.int .i64 (b:Int))=some (.int .i64 (d:Int)):=by
 simp only [SX.aZ,om,if_true]
 rw [wrap_i64 ab ab]
 congr 2
 omega
def KA(A:Option Addr)(c:Nat)(l:List W8)(v:Value)(z:Nat)(xs:List Value):Prop:=SX.mf A 64 c 1 (l.flatMap c8) v z xs∨(v=.slice (some ⟨1,0,none⟩) 64 64∧z=1∧xs=ct.flatMap zV)
theorem dx(A:Option Addr)(c:Nat)(l:List W8)(hl:l.length=64)(hc:64≤c)(j:Nat)(hj:j≤64):KA A c l (SX.bo A 1 j 64 c) 1 ((l.drop j).flatMap c8):=by
 have:=SX.mf.part aQ (A:=A) (n:=64) (c:=c) (L:=l) (l:=j) (h:=64) (m:=c) hj ab hc ab
 rw [List.take_of_length_le (by rw [List.length_drop];omega)]at this
 exact .inl this
theorem bC(l:List W8)(t:Nat):au (l.drop (4*t)) 0=au l t:=by
 simp [au,List.getD_eq_getElem?_getD]
theorem zX(X:List Value):SX.ae (.agg X.toArray)=X:=rfl
theorem qt{s v:S8}{l:List W8}(h:wz (av l 48) s 64=v):bK s l=⟨s.a+v.a,s.b+v.b,s.c+v.c,s.d+v.d,s.e+v.e,s.f+v.f,s.g+v.g,s.h+v.h⟩:=by
 subst h;rfl
theorem ux{ws:List cm}{s v:S8}{j:Nat}{kn:cm}(h:wz ws s j=v)(hk:ct.getD j 0=kn):wz ws s (j+1)=v.jM kn (ws.getD j 0):=by
 subst h;subst hk;rfl
def kD:List SX.V:=[.p 0 0,.x 8 []]
def lE:List SX.ak:=[⟨(List.range 8).map fun j=>.x j [],138,.cells⟩]
def lj:SX.Tree :=
(.df (.slc false 1 true false false) [(.q 8),(.i 0)] .one
(.df (.call 127 [(.ext 1)]) [(.q 9)] .one
(.df (.slc false 1 true false false) [(.q 8),(.i 4)] .one
(.df (.call 127 [(.ext 1)]) [(.q 11)] .one
(.df (.slc false 1 true false false) [(.q 8),(.i 8)] .one
(.df (.call 127 [(.ext 1)]) [(.q 13)] .one
(.df (.slc false 1 true false false) [(.q 8),(.i 12)] .one
(.df (.call 127 [(.ext 1)]) [(.q 15)] .one
(.df (.slc false 1 true false false) [(.q 8),(.i 16)] .one
(.df (.call 127 [(.ext 1)]) [(.q 17)] .one
(.df (.slc false 1 true false false) [(.q 8),(.i 20)] .one
(.df (.call 127 [(.ext 1)]) [(.q 19)] .one
(.df (.slc false 1 true false false) [(.q 8),(.i 24)] .one
(.df (.call 127 [(.ext 1)]) [(.q 21)] .one
(.df (.slc false 1 true false false) [(.q 8),(.i 28)] .one
(.df (.call 127 [(.ext 1)]) [(.q 23)] .one
(.df (.slc false 1 true false false) [(.q 8),(.i 32)] .one
(.df (.call 127 [(.ext 1)]) [(.q 25)] .one
(.df (.slc false 1 true false false) [(.q 8),(.i 36)] .one
(.df (.call 127 [(.ext 1)]) [(.q 27)] .one
(.df (.slc false 1 true false false) [(.q 8),(.i 40)] .one
(.df (.call 127 [(.ext 1)]) [(.q 29)] .one
(.df (.slc false 1 true false false) [(.q 8),(.i 44)] .one
(.df (.call 127 [(.ext 1)]) [(.q 31)] .one
(.df (.slc false 1 true false false) [(.q 8),(.i 48)] .one
(.df (.call 127 [(.ext 1)]) [(.q 33)] .one
(.df (.slc false 1 true false false) [(.q 8),(.i 52)] .one
(.df (.call 127 [(.ext 1)]) [(.q 35)] .one
(.df (.slc false 1 true false false) [(.q 8),(.i 56)] .one
(.df (.call 127 [(.ext 1)]) [(.q 37)] .one
(.df (.slc false 1 true false false) [(.q 8),(.i 60)] .one
(.df (.call 127 [(.ext 1)]) [(.q 39)] .one
(.loop ([(.i 16),(.q 10),(.q 12),(.q 14),(.q 16),(.q 18),(.q 20),(.q 22),(.q 24),(.q 26),(.q 28),(.q 30),(.q 32),(.q 34),(.q 36),(.q 38),(.q 40)]++SX.QL 48 (.k (.int .u32 0))) (SX.QL 65 .one)
(.df (.bin .lss 3) [(.q 41),(.i 64)] .one
(.br 106 []
(.df (.bin .sub 3) [(.q 41),(.i 15)] .one
(.df .bnd [(.sl 1 0 64 64),(.q 107)] .one
(.df (.relem 1 0) [(.cat [(.a (SX.QK 42 64))]),(.q 107)] .one
(.df (.bin .sub 3) [(.q 41),(.i 2)] .one
(.df .bnd [(.sl 1 0 64 64),(.q 110)] .one
(.df (.relem 1 0) [(.cat [(.a (SX.QK 42 64))]),(.q 110)] .one
(.df (.bin .sub 3) [(.q 41),(.i 16)] .one
(.df .bnd [(.sl 1 0 64 64),(.q 113)] .one
(.df (.relem 1 0) [(.cat [(.a (SX.QK 42 64))]),(.q 113)] .one
(.df (.call 128 [.no,.no]) [(.q 109),(.i (-7))] .one
(.df (.call 128 [.no,.no]) [(.q 109),(.i (-18))] .one
(.df (.bin .xor 136) [(.q 116),(.q 117)] .one
(.df (.bin .shr 136) [(.q 109),(.k (.int .u64 3))] .one
(.df (.bin .xor 136) [(.q 118),(.q 119)] .one
(.df (.bin .add 136) [(.q 115),(.q 120)] .one
(.df (.bin .sub 3) [(.q 41),(.i 7)] .one
(.df .bnd [(.sl 1 0 64 64),(.q 122)] .one
(.df (.relem 1 0) [(.cat [(.a (SX.QK 42 64))]),(.q 122)] .one
(.df (.bin .add 136) [(.q 121),(.q 124)] .one
(.df (.call 128 [.no,.no]) [(.q 112),(.i (-17))] .one
(.df (.call 128 [.no,.no]) [(.q 112),(.i (-19))] .one
(.df (.bin .xor 136) [(.q 126),(.q 127)] .one
(.df (.bin .shr 136) [(.q 112),(.k (.int .u64 10))] .one
(.df (.bin .xor 136) [(.q 128),(.q 129)] .one
(.df (.bin .add 136) [(.q 125),(.q 130)] .one
(.df .bnd [(.sl 1 0 64 64),(.q 41)] .one
(.df (.rset 1 0) [(.cat [(.a (SX.QK 42 64))]),(.q 41),(.q 131)] (.ag 64)
(.df (.bin .add 3) [(.q 41),(.i 1)] .one
(.again 0 ([(.q 134)]++SX.QJ 133 0 64))))))))))))))))))))))))))))))
(.loop ([(.i 0)]++SX.QK 0 8) (SX.QL 9 .one)
(.df (.bin .lss 3) [(.q 107),(.i 64)] .one
(.br 116 []
(.df (.call 129 [.no,.no,.no,.no]) [(.q 112),(.i 6),(.i 11),(.i 25)] .one
(.df (.bin .add 136) [(.q 115),(.q 117)] .one
(.df (.bin .xor 136) [(.q 113),(.q 114)] .one
(.df (.bin .and 136) [(.q 112),(.q 119)] .one
(.df (.bin .xor 136) [(.q 114),(.q 120)] .one
(.df (.bin .add 136) [(.q 118),(.q 121)] .one
(.df .bnd [(.k (.slice (some ⟨1,0,none⟩) 64 64)),(.q 107)] .one
(.df (.elem 1 0) [(.k (.slice (some ⟨1,0,none⟩) 64 64)),(.q 107)] .one
(.df (.bin .add 136) [(.q 122),(.q 124)] .one
(.df .bnd [(.sl 1 0 64 64),(.q 107)] .one
(.df (.relem 1 0) [(.cat [(.a (SX.QK 42 64))]),(.q 107)] .one
(.df (.bin .add 136) [(.q 125),(.q 127)] .one
(.df (.call 129 [.no,.no,.no,.no]) [(.q 108),(.i 2),(.i 13),(.i 22)] .one
(.df (.bin .and 136) [(.q 108),(.q 109)] .one
(.df (.bin .or 136) [(.q 108),(.q 109)] .one
(.df (.bin .and 136) [(.q 110),(.q 131)] .one
(.df (.bin .or 136) [(.q 130),(.q 132)] .one
(.df (.bin .add 136) [(.q 129),(.q 133)] .one
(.df (.bin .add 136) [(.q 111),(.q 128)] .one
(.df (.bin .add 136) [(.q 128),(.q 134)] .one
(.df (.bin .add 3) [(.q 107),(.i 1)] .one
(.again 1 ([(.q 137),(.q 136)]++SX.QK 108 3++[(.q 135)]++SX.QK 112 3)))))))))))))))))))))))
(.df (.bin .add 136) [(.q 0),(.q 108)] .one
(.df (.bin .add 136) [(.q 1),(.q 109)] .one
(.df (.bin .add 136) [(.q 2),(.q 110)] .one
(.df (.bin .add 136) [(.q 3),(.q 111)] .one
(.df (.bin .add 136) [(.q 4),(.q 112)] .one
(.df (.bin .add 136) [(.q 5),(.q 113)] .one
(.df (.bin .add 136) [(.q 6),(.q 114)] .one
(.df (.bin .add 136) [(.q 7),(.q 115)] .one
(.ret (.t []) ([(some ⟨(SX.QK 117 8),138,.cells⟩),(some ⟨(SX.QK 42 64),166,.cells⟩)]++SX.QL 65 none++[(some ⟨(SX.QK 108 8),138,.cells⟩)]++SX.QL 9 none) [[(some (.p 0 0))]])))))))))))))))))))))))))))))))))))))))))))))))
theorem Ba(K A:SX.QV):(SX.run (MO K A) ⟨fun _=>false,[⟨109,7,((.s 6,.one)::(List.range 64).map fun j=>(.c 1 j,.one))⟩,⟨109,13,((.s 69,.one)::(List.range 8).map fun j=>(.c 67 j,.one))⟩],1,100⟩ 100000 0 { fr:=kD.map some++List.replicate (Tryz.f109.ntmps-kD.length) (some (.k undef)),stk:=[(List.range (lE).length).map fun n=>some (.p n 0)],hp:=(lE).map some,ln:=(lE).map some,sh:=(List.replicate 8 .one++[.any]),kn:=[],lps:=[],cur:=109 } [.code (Tryz.f109.body.getD .skip),.top Tryz.f109]).eS=lj:=aa
theorem qu(C:SX.Cx)(hP:C.P=Tryz.prog)(hnum:C.K (.slice (some ⟨1,0,none⟩) 64 64) 1 (ct.flatMap zV))(s:S8)(l:List W8)(hl:l.length=64)(u:Value):SX.xh C 109 [⟨u,1,l.flatMap c8⟩] s.cells 138 (.agg (bK s l).cells.toArray):=by
 intro w b hrd hK hb
 rw [hP]
 have hrd':∀ W',bp [b] w W'→SX.Arg.rd W' ⟨u,1,l.flatMap c8⟩:=fun W' h=>hrd _ ai W' h
 obtain⟨A,n,c,rfl,hr,hc,hn⟩:=cT (hrd' w (.refl _ _))
 obtain rfl:n=64:=ab
 refine SX.sY (C:=MO (KA A c l) SX.QW) (G:=⟨fun _=>false,[⟨109,7,((.s 6,.one)::(List.range 64).map fun j=>(.c 1 j,.one))⟩,⟨109,13,((.s 69,.one)::(List.range 8).map fun j=>(.c 67 j,.one))⟩],1,100⟩) (args:=kD) (sh:=(List.replicate 8 .one++[.any])) (ρ:=[aI s.a,aI s.b,aI s.c,aI s.d,aI s.e,aI s.f,aI s.g,aI s.h,.slice A 64 c]) (bs:=[b]) (bl:=lE) 100000 lj (K2 _ _) Tryz.func109 rfl (cast aa (Ba (KA A c l) SX.QW)) aa aa aa ?_ ai rfl ?_ aj ?_
 ·rintro W hW v z xs (h|⟨rfl,rfl,rfl⟩)
  ·obtain⟨A',n',c',h1,h2,h3,h4⟩:=cT (hrd' W hW)
   cases h1
   exact SX.mf.rd h2 h
  exact hK _ _ _ hnum W hW
 ·intro i b0 B h2 h3
  match i,h2,h3 with
  | 0,h2,h3=>cases h2;cases h3;exact cast aa hb
  | i+1,h2,_=>simp at h2
 have hA:=SX.rd_some hr
 have fin:∀ (α:Nat→SX.AV) (W:World) (hp:List (Option SX.ak)) (cs:List SX.V) (ρ:List Value) (os:List Ow) (ps:List (World→Prop)),hp[0]?=some (some ⟨cs,138,.cells⟩)→SX.ah ρ α cs=(bK s l).cells→SX.xc ρ α [[some (.p 0 0)]] [⟨([b].map fun b=>Value.pointer (some ⟨b,0,none⟩)).toArray,[],none⟩]→St ⟨w,[b],SX.Af (MO (KA A c l) SX.QW),SX.Bf (MO (KA A c l) SX.QW)⟩ (SX.aU ρ α 0 hp) os ps W →
  Ending.returned (.tuple #[])=.returned (.tuple #[])∧W.os=w.os∧W.tape=w.tape∧W.output=w.output∧bp [b] w W∧W.heap[b]?=some (.cells (SX.ae (.agg (bK s l).cells.toArray)).toArray 138 (0,0)):=by
  intro α W hp cs ρ os ps hhp hcs hF hS
  have e0:b=(α 0).b:=by
   have:=hF.1.2 0 (.p 0 0) rfl
   simpa [SX.V.den]using this
  have g0:=hS.at_ (k:=(α 0).b) (c:=(bK s l).cells.toArray) (t:=138) (SX.dk (k:=0) (n:=0) (b:=⟨cs,138,.cells⟩) hhp (by simp only [SX.ak.ch,hcs]))
  refine⟨rfl,hS.b5.os,hS.b5.tape,hS.b5.output,⟨hS.b5.size,fun b' hb' hm=>hS.b5.block b' hb' hm⟩,?_⟩
  rw [e0,zX]
  exact g0
 unfold lj
 refine SX.QC (SX.bo A 1 0 64 c) (fun α=>SX.du (n:=64) (k:=0) aa aa ab) ?_
 refine SX.QC (aI (au (l.drop 0) 0)) (fun α=>⟨[⟨SX.bo A 1 0 64 c,1,(l.drop 0).flatMap c8⟩],⟨aa,rfl,cast aa (dx A c l hl hc 0 ab),trivial⟩,.inr (.inr ⟨rfl,_,_,rfl,by rw [List.length_drop];omega,by rw [List.length_drop];omega,rfl⟩),SX.ap rfl⟩) ?_
 refine SX.QC (SX.bo A 1 4 64 c) (fun α=>SX.du (n:=64) (k:=4) aa aa ab) ?_
 refine SX.QC (aI (au (l.drop 4) 0)) (fun α=>⟨[⟨SX.bo A 1 4 64 c,1,(l.drop 4).flatMap c8⟩],⟨aa,rfl,cast aa (dx A c l hl hc 4 ab),trivial⟩,.inr (.inr ⟨rfl,_,_,rfl,by rw [List.length_drop];omega,by rw [List.length_drop];omega,rfl⟩),SX.ap rfl⟩) ?_
 refine SX.QC (SX.bo A 1 8 64 c) (fun α=>SX.du (n:=64) (k:=8) aa aa ab) ?_
 refine SX.QC (aI (au (l.drop 8) 0)) (fun α=>⟨[⟨SX.bo A 1 8 64 c,1,(l.drop 8).flatMap c8⟩],⟨aa,rfl,cast aa (dx A c l hl hc 8 ab),trivial⟩,.inr (.inr ⟨rfl,_,_,rfl,by rw [List.length_drop];omega,by rw [List.length_drop];omega,rfl⟩),SX.ap rfl⟩) ?_
 refine SX.QC (SX.bo A 1 12 64 c) (fun α=>SX.du (n:=64) (k:=12) aa aa ab) ?_
 refine SX.QC (aI (au (l.drop 12) 0)) (fun α=>⟨[⟨SX.bo A 1 12 64 c,1,(l.drop 12).flatMap c8⟩],⟨aa,rfl,cast aa (dx A c l hl hc 12 ab),trivial⟩,.inr (.inr ⟨rfl,_,_,rfl,by rw [List.length_drop];omega,by rw [List.length_drop];omega,rfl⟩),SX.ap rfl⟩) ?_
 refine SX.QC (SX.bo A 1 16 64 c) (fun α=>SX.du (n:=64) (k:=16) aa aa ab) ?_
 refine SX.QC (aI (au (l.drop 16) 0)) (fun α=>⟨[⟨SX.bo A 1 16 64 c,1,(l.drop 16).flatMap c8⟩],⟨aa,rfl,cast aa (dx A c l hl hc 16 ab),trivial⟩,.inr (.inr ⟨rfl,_,_,rfl,by rw [List.length_drop];omega,by rw [List.length_drop];omega,rfl⟩),SX.ap rfl⟩) ?_
 refine SX.QC (SX.bo A 1 20 64 c) (fun α=>SX.du (n:=64) (k:=20) aa aa ab) ?_
 refine SX.QC (aI (au (l.drop 20) 0)) (fun α=>⟨[⟨SX.bo A 1 20 64 c,1,(l.drop 20).flatMap c8⟩],⟨aa,rfl,cast aa (dx A c l hl hc 20 ab),trivial⟩,.inr (.inr ⟨rfl,_,_,rfl,by rw [List.length_drop];omega,by rw [List.length_drop];omega,rfl⟩),SX.ap rfl⟩) ?_
 refine SX.QC (SX.bo A 1 24 64 c) (fun α=>SX.du (n:=64) (k:=24) aa aa ab) ?_
 refine SX.QC (aI (au (l.drop 24) 0)) (fun α=>⟨[⟨SX.bo A 1 24 64 c,1,(l.drop 24).flatMap c8⟩],⟨aa,rfl,cast aa (dx A c l hl hc 24 ab),trivial⟩,.inr (.inr ⟨rfl,_,_,rfl,by rw [List.length_drop];omega,by rw [List.length_drop];omega,rfl⟩),SX.ap rfl⟩) ?_
 refine SX.QC (SX.bo A 1 28 64 c) (fun α=>SX.du (n:=64) (k:=28) aa aa ab) ?_
 refine SX.QC (aI (au (l.drop 28) 0)) (fun α=>⟨[⟨SX.bo A 1 28 64 c,1,(l.drop 28).flatMap c8⟩],⟨aa,rfl,cast aa (dx A c l hl hc 28 ab),trivial⟩,.inr (.inr ⟨rfl,_,_,rfl,by rw [List.length_drop];omega,by rw [List.length_drop];omega,rfl⟩),SX.ap rfl⟩) ?_
 refine SX.QC (SX.bo A 1 32 64 c) (fun α=>SX.du (n:=64) (k:=32) aa aa ab) ?_
 refine SX.QC (aI (au (l.drop 32) 0)) (fun α=>⟨[⟨SX.bo A 1 32 64 c,1,(l.drop 32).flatMap c8⟩],⟨aa,rfl,cast aa (dx A c l hl hc 32 ab),trivial⟩,.inr (.inr ⟨rfl,_,_,rfl,by rw [List.length_drop];omega,by rw [List.length_drop];omega,rfl⟩),SX.ap rfl⟩) ?_
 refine SX.QC (SX.bo A 1 36 64 c) (fun α=>SX.du (n:=64) (k:=36) aa aa ab) ?_
 refine SX.QC (aI (au (l.drop 36) 0)) (fun α=>⟨[⟨SX.bo A 1 36 64 c,1,(l.drop 36).flatMap c8⟩],⟨aa,rfl,cast aa (dx A c l hl hc 36 ab),trivial⟩,.inr (.inr ⟨rfl,_,_,rfl,by rw [List.length_drop];omega,by rw [List.length_drop];omega,rfl⟩),SX.ap rfl⟩) ?_
 refine SX.QC (SX.bo A 1 40 64 c) (fun α=>SX.du (n:=64) (k:=40) aa aa ab) ?_
 refine SX.QC (aI (au (l.drop 40) 0)) (fun α=>⟨[⟨SX.bo A 1 40 64 c,1,(l.drop 40).flatMap c8⟩],⟨aa,rfl,cast aa (dx A c l hl hc 40 ab),trivial⟩,.inr (.inr ⟨rfl,_,_,rfl,by rw [List.length_drop];omega,by rw [List.length_drop];omega,rfl⟩),SX.ap rfl⟩) ?_
 refine SX.QC (SX.bo A 1 44 64 c) (fun α=>SX.du (n:=64) (k:=44) aa aa ab) ?_
 refine SX.QC (aI (au (l.drop 44) 0)) (fun α=>⟨[⟨SX.bo A 1 44 64 c,1,(l.drop 44).flatMap c8⟩],⟨aa,rfl,cast aa (dx A c l hl hc 44 ab),trivial⟩,.inr (.inr ⟨rfl,_,_,rfl,by rw [List.length_drop];omega,by rw [List.length_drop];omega,rfl⟩),SX.ap rfl⟩) ?_
 refine SX.QC (SX.bo A 1 48 64 c) (fun α=>SX.du (n:=64) (k:=48) aa aa ab) ?_
 refine SX.QC (aI (au (l.drop 48) 0)) (fun α=>⟨[⟨SX.bo A 1 48 64 c,1,(l.drop 48).flatMap c8⟩],⟨aa,rfl,cast aa (dx A c l hl hc 48 ab),trivial⟩,.inr (.inr ⟨rfl,_,_,rfl,by rw [List.length_drop];omega,by rw [List.length_drop];omega,rfl⟩),SX.ap rfl⟩) ?_
 refine SX.QC (SX.bo A 1 52 64 c) (fun α=>SX.du (n:=64) (k:=52) aa aa ab) ?_
 refine SX.QC (aI (au (l.drop 52) 0)) (fun α=>⟨[⟨SX.bo A 1 52 64 c,1,(l.drop 52).flatMap c8⟩],⟨aa,rfl,cast aa (dx A c l hl hc 52 ab),trivial⟩,.inr (.inr ⟨rfl,_,_,rfl,by rw [List.length_drop];omega,by rw [List.length_drop];omega,rfl⟩),SX.ap rfl⟩) ?_
 refine SX.QC (SX.bo A 1 56 64 c) (fun α=>SX.du (n:=64) (k:=56) aa aa ab) ?_
 refine SX.QC (aI (au (l.drop 56) 0)) (fun α=>⟨[⟨SX.bo A 1 56 64 c,1,(l.drop 56).flatMap c8⟩],⟨aa,rfl,cast aa (dx A c l hl hc 56 ab),trivial⟩,.inr (.inr ⟨rfl,_,_,rfl,by rw [List.length_drop];omega,by rw [List.length_drop];omega,rfl⟩),SX.ap rfl⟩) ?_
 refine SX.QC (SX.bo A 1 60 64 c) (fun α=>SX.du (n:=64) (k:=60) aa aa ab) ?_
 refine SX.QC (aI (au (l.drop 60) 0)) (fun α=>⟨[⟨SX.bo A 1 60 64 c,1,(l.drop 60).flatMap c8⟩],⟨aa,rfl,cast aa (dx A c l hl hc 60 ab),trivial⟩,.inr (.inr ⟨rfl,_,_,rfl,by rw [List.length_drop];omega,by rw [List.length_drop];omega,rfl⟩),SX.ap rfl⟩) ?_
 have hw0:([au (l.drop 0) 0,au (l.drop 4) 0,au (l.drop 8) 0,au (l.drop 12) 0,au (l.drop 16) 0,au (l.drop 20) 0,au (l.drop 24) 0,au (l.drop 28) 0,au (l.drop 32) 0,au (l.drop 36) 0,au (l.drop 40) 0,au (l.drop 44) 0,au (l.drop 48) 0,au (l.drop 52) 0,au (l.drop 56) 0,au (l.drop 60) 0,0,0,0,0,0,0,0,0,0,0,0,0,0,0,0,0,0,0,0,0,0,0,0,0,0,0,0,0,0,0,0,0,0,0,0,0,0,0,0,0,0,0,0,0,0,0,0,0]:List cm)=Ox l:=by
  have:=fun t=>bC l t
  rw [show Ox l=[au l 0,au l 1,au l 2,au l 3,au l 4,au l 5,au l 6,au l 7,au l 8,au l 9,au l 10,au l 11,au l 12,au l 13,au l 14,au l 15,0,0,0,0,0,0,0,0,0,0,0,0,0,0,0,0,0,0,0,0,0,0,0,0,0,0,0,0,0,0,0,0,0,0,0,0,0,0,0,0,0,0,0,0,0,0,0,0] from rfl]
  rw [← bC l 0,← bC l 1,← bC l 2,← bC l 3,← bC l 4,← bC l 5,← bC l 6,← bC l 7,← bC l 8,← bC l 9,← bC l 10,← bC l 11,← bC l 12,← bC l 13,← bC l 14,← bC l 15]
 refine SX.ck (fun xs=>∃ k:Nat,xs=.int .i64 ((16+k:Nat):Int)::(av l k).map aI∧k≤48) (fun xs=>match xs with|.int _ i::_=>64-i.toNat|_=>0) (fun α=>⟨0,Eq.trans (b:=.int .i64 16::([au (l.drop 0) 0,au (l.drop 4) 0,au (l.drop 8) 0,au (l.drop 12) 0,au (l.drop 16) 0,au (l.drop 20) 0,au (l.drop 24) 0,au (l.drop 28) 0,au (l.drop 32) 0,au (l.drop 36) 0,au (l.drop 40) 0,au (l.drop 44) 0,au (l.drop 48) 0,au (l.drop 52) 0,au (l.drop 56) 0,au (l.drop 60) 0,0,0,0,0,0,0,0,0,0,0,0,0,0,0,0,0,0,0,0,0,0,0,0,0,0,0,0,0,0,0,0,0,0,0,0,0,0,0,0,0,0,0,0,0,0,0,0,0]:List cm).map aI) aa (by rw [hw0];rfl),ab⟩) ?_
 rintro xs-⟨k,rfl,hk⟩
 obtain⟨g,hu⟩:=GC (av l k) (fI l k)
 have hL:=fI l k
 rw [hu]
 refine SX.QB (.bool (decide (((16+k:Nat):Int)<64))) ?_
 refine SX.QD (decide (((16+k:Nat):Int)<64)) (fun hlt=>?_) (fun hge=>?_)
 ·have hk2:k<48:=by simp only [decide_eq_true_eq]at hlt;omega
  refine SX.QF (.int .i64 ((16+k-15:Nat):Int)) (pg (a:=16+k) (b:=15) (d:=16+k-15) ab ab) ?_
  refine SX.QC (.bool true) (fun α=>SX.cq (A:=some ⟨(α 1).b,0,none⟩) (n:=64) (c:=64) (j:=(16+k-15)) al rfl aa ab) ?_
  refine SX.QC (aI ((av l k).getD (16+k-15) 0)) (fun α=>iC (u:=(av l k)) (k:=(16+k-15)) (by rw [hu];kernel_rfl) aa (by rw [hL];omega)) ?_
  refine SX.QF (.int .i64 ((16+k-2:Nat):Int)) (pg (a:=16+k) (b:=2) (d:=16+k-2) ab ab) ?_
  refine SX.QC (.bool true) (fun α=>SX.cq (A:=some ⟨(α 1).b,0,none⟩) (n:=64) (c:=64) (j:=(16+k-2)) al rfl aa ab) ?_
  refine SX.QC (aI ((av l k).getD (16+k-2) 0)) (fun α=>iC (u:=(av l k)) (k:=(16+k-2)) (by rw [hu];kernel_rfl) aa (by rw [hL];omega)) ?_
  refine SX.QF (.int .i64 ((16+k-16:Nat):Int)) (pg (a:=16+k) (b:=16) (d:=16+k-16) ab ab) ?_
  refine SX.QC (.bool true) (fun α=>SX.cq (A:=some ⟨(α 1).b,0,none⟩) (n:=64) (c:=64) (j:=(16+k-16)) al rfl aa ab) ?_
  refine SX.QC (aI ((av l k).getD (16+k-16) 0)) (fun α=>iC (u:=(av l k)) (k:=(16+k-16)) (by rw [hu];kernel_rfl) aa (by rw [hL];omega)) ?_
  refine SX.QC (aI (ca ((av l k).getD (16+k-15) 0) (aD (-7)))) (fun α=>⟨[⟨aI ((av l k).getD (16+k-15) 0),0,[]⟩,⟨.int .i64 (-7),0,[]⟩],SX.QQ,.inl ⟨rfl,((av l k).getD (16+k-15) 0),-7,aj,rfl,rfl⟩,SX.ap rfl⟩) ?_
  refine SX.QC (aI (ca ((av l k).getD (16+k-15) 0) (aD (-18)))) (fun α=>⟨[⟨aI ((av l k).getD (16+k-15) 0),0,[]⟩,⟨.int .i64 (-18),0,[]⟩],SX.QQ,.inl ⟨rfl,((av l k).getD (16+k-15) 0),-18,aj,rfl,rfl⟩,SX.ap rfl⟩) ?_
  refine SX.QF (aI ((ca ((av l k).getD (16+k-15) 0) (aD (-7)))^^^(ca ((av l k).getD (16+k-15) 0) (aD (-18))))) (fR (ca ((av l k).getD (16+k-15) 0) (aD (-7))) (ca ((av l k).getD (16+k-15) 0) (aD (-18)))) ?_
  refine SX.QF (aI (((av l k).getD (16+k-15) 0)>>>3)) (sN ((av l k).getD (16+k-15) 0) .u64 3 ab) ?_
  refine SX.QF (aI (((ca ((av l k).getD (16+k-15) 0) (aD (-7)))^^^(ca ((av l k).getD (16+k-15) 0) (aD (-18))))^^^(((av l k).getD (16+k-15) 0)>>>3))) (fR ((ca ((av l k).getD (16+k-15) 0) (aD (-7)))^^^(ca ((av l k).getD (16+k-15) 0) (aD (-18)))) (((av l k).getD (16+k-15) 0)>>>3)) ?_
  refine SX.QF (aI (((av l k).getD (16+k-16) 0)+(((ca ((av l k).getD (16+k-15) 0) (aD (-7)))^^^(ca ((av l k).getD (16+k-15) 0) (aD (-18))))^^^(((av l k).getD (16+k-15) 0)>>>3)))) (cI ((av l k).getD (16+k-16) 0) (((ca ((av l k).getD (16+k-15) 0) (aD (-7)))^^^(ca ((av l k).getD (16+k-15) 0) (aD (-18))))^^^(((av l k).getD (16+k-15) 0)>>>3))) ?_
  refine SX.QF (.int .i64 ((16+k-7:Nat):Int)) (pg (a:=16+k) (b:=7) (d:=16+k-7) ab ab) ?_
  refine SX.QC (.bool true) (fun α=>SX.cq (A:=some ⟨(α 1).b,0,none⟩) (n:=64) (c:=64) (j:=(16+k-7)) al rfl aa ab) ?_
  refine SX.QC (aI ((av l k).getD (16+k-7) 0)) (fun α=>iC (u:=(av l k)) (k:=(16+k-7)) (by rw [hu];kernel_rfl) aa (by rw [hL];omega)) ?_
  refine SX.QF (aI ((((av l k).getD (16+k-16) 0)+(((ca ((av l k).getD (16+k-15) 0) (aD (-7)))^^^(ca ((av l k).getD (16+k-15) 0) (aD (-18))))^^^(((av l k).getD (16+k-15) 0)>>>3)))+((av l k).getD (16+k-7) 0))) (cI (((av l k).getD (16+k-16) 0)+(((ca ((av l k).getD (16+k-15) 0) (aD (-7)))^^^(ca ((av l k).getD (16+k-15) 0) (aD (-18))))^^^(((av l k).getD (16+k-15) 0)>>>3))) ((av l k).getD (16+k-7) 0)) ?_
  refine SX.QC (aI (ca ((av l k).getD (16+k-2) 0) (aD (-17)))) (fun α=>⟨[⟨aI ((av l k).getD (16+k-2) 0),0,[]⟩,⟨.int .i64 (-17),0,[]⟩],SX.QQ,.inl ⟨rfl,((av l k).getD (16+k-2) 0),-17,aj,rfl,rfl⟩,SX.ap rfl⟩) ?_
  refine SX.QC (aI (ca ((av l k).getD (16+k-2) 0) (aD (-19)))) (fun α=>⟨[⟨aI ((av l k).getD (16+k-2) 0),0,[]⟩,⟨.int .i64 (-19),0,[]⟩],SX.QQ,.inl ⟨rfl,((av l k).getD (16+k-2) 0),-19,aj,rfl,rfl⟩,SX.ap rfl⟩) ?_
  refine SX.QF (aI ((ca ((av l k).getD (16+k-2) 0) (aD (-17)))^^^(ca ((av l k).getD (16+k-2) 0) (aD (-19))))) (fR (ca ((av l k).getD (16+k-2) 0) (aD (-17))) (ca ((av l k).getD (16+k-2) 0) (aD (-19)))) ?_
  refine SX.QF (aI (((av l k).getD (16+k-2) 0)>>>10)) (sN ((av l k).getD (16+k-2) 0) .u64 10 ab) ?_
  refine SX.QF (aI (((ca ((av l k).getD (16+k-2) 0) (aD (-17)))^^^(ca ((av l k).getD (16+k-2) 0) (aD (-19))))^^^(((av l k).getD (16+k-2) 0)>>>10))) (fR ((ca ((av l k).getD (16+k-2) 0) (aD (-17)))^^^(ca ((av l k).getD (16+k-2) 0) (aD (-19)))) (((av l k).getD (16+k-2) 0)>>>10)) ?_
  refine SX.QF (aI (((((av l k).getD (16+k-16) 0)+(((ca ((av l k).getD (16+k-15) 0) (aD (-7)))^^^(ca ((av l k).getD (16+k-15) 0) (aD (-18))))^^^(((av l k).getD (16+k-15) 0)>>>3)))+((av l k).getD (16+k-7) 0))+(((ca ((av l k).getD (16+k-2) 0) (aD (-17)))^^^(ca ((av l k).getD (16+k-2) 0) (aD (-19))))^^^(((av l k).getD (16+k-2) 0)>>>10)))) (cI ((((av l k).getD (16+k-16) 0)+(((ca ((av l k).getD (16+k-15) 0) (aD (-7)))^^^(ca ((av l k).getD (16+k-15) 0) (aD (-18))))^^^(((av l k).getD (16+k-15) 0)>>>3)))+((av l k).getD (16+k-7) 0)) (((ca ((av l k).getD (16+k-2) 0) (aD (-17)))^^^(ca ((av l k).getD (16+k-2) 0) (aD (-19))))^^^(((av l k).getD (16+k-2) 0)>>>10))) ?_
  refine SX.QC (.bool true) (fun α=>SX.cq (A:=some ⟨(α 1).b,0,none⟩) (n:=64) (c:=64) (j:=(16+k)) al rfl aa ab) ?_
  refine SX.aO (.agg (((av l k).set (16+k) (ui (av l k) (16+k))).map aI).toArray) (fun α=>KH (u:=(av l k)) (k:=16+k) (y:=ui (av l k) (16+k)) (by rw [hu];kernel_rfl) aa aa (by rw [hL];omega)) (Nl _ (by simp [fI])) ?_
  refine SX.QF (.int .i64 ((16+(k+1):Nat):Int)) (B7 (a:=16+k) (b:=1) (d:=16+(k+1)) ab ab) ?_
  exact bW rfl (fun α=>⟨k+1,tq (v0:=.x 134 []) (m:=133) (N:=64) aa aa aa (by simp [fI]),ab⟩) (fun α=>cast aa (show 64-(16+(k+1))<64-(16+k) by omega))
 obtain rfl:k=48:=by simp only [decide_eq_false_iff_not]at hge;omega
 refine SX.ck (fun xs=>∃ j:Nat,xs=.int .i64 (j:Int)::(wz (av l 48) s j).cells∧j≤64) (fun xs=>match xs with|.int _ i::_=>64-i.toNat|_=>0) (fun α=>⟨0,aa,ab⟩) ?_
 rintro xs-⟨j,rfl,hj⟩
 generalize hv:wz (av l 48) s j=v
 refine SX.QB (.bool (decide ((j:Int)<64))) ?_
 refine SX.QD (decide ((j:Int)<64)) (fun hlt=>?_) (fun hge=>?_)
 ·have hj2:j<64:=by simp only [decide_eq_true_eq]at hlt;omega
  obtain⟨kn,hkn⟩:∃ z,ct[j]?=some z:=⟨_,List.getElem?_eq_getElem (show j<64 from hj2)⟩
  have hkn2:ct.getD j 0=kn:=by rw [List.getD_eq_getElem?_getD,hkn];rfl
  refine SX.QC (aI (sig v.e 6 11 25)) (fun α=>⟨[⟨aI v.e,0,[]⟩,⟨.int .i64 6,0,[]⟩,⟨.int .i64 11,0,[]⟩,⟨.int .i64 25,0,[]⟩],⟨aa,aa,aa,aa,aa,aa,aa,aa,trivial⟩,.inr (.inl ⟨rfl,v.e,6,11,25,aj,aj,aj,rfl,rfl⟩),SX.ap rfl⟩) ?_
  refine SX.QF (aI (v.h+(sig v.e 6 11 25))) (cI v.h (sig v.e 6 11 25)) ?_
  refine SX.QF (aI (v.f^^^v.g)) (fR v.f v.g) ?_
  refine SX.QF (aI (v.e&&&(v.f^^^v.g))) (pO v.e (v.f^^^v.g)) ?_
  refine SX.QF (aI (v.g^^^(v.e&&&(v.f^^^v.g)))) (fR v.g (v.e&&&(v.f^^^v.g))) ?_
  refine SX.QF (aI ((v.h+(sig v.e 6 11 25))+(v.g^^^(v.e&&&(v.f^^^v.g))))) (cI (v.h+(sig v.e 6 11 25)) (v.g^^^(v.e&&&(v.f^^^v.g)))) ?_
  refine SX.QC (.bool true) (fun α=>SX.cq (A:=some ⟨1,0,none⟩) (n:=64) (c:=64) (j:=j) al rfl aa ab) ?_
  refine SX.QC (aI kn) (fun α=>SX.cS (f:=zV) (l:=ct) (A:=some ⟨1,0,none⟩) (n:=64) (c:=64) (j:=j) (z:=kn) vr al rfl aa ab (.inr ⟨rfl,rfl,rfl⟩) hkn ab rfl) ?_
  refine SX.QF (aI (((v.h+(sig v.e 6 11 25))+(v.g^^^(v.e&&&(v.f^^^v.g))))+kn)) (cI ((v.h+(sig v.e 6 11 25))+(v.g^^^(v.e&&&(v.f^^^v.g)))) kn) ?_
  refine SX.QC (.bool true) (fun α=>SX.cq (A:=some ⟨(α 1).b,0,none⟩) (n:=64) (c:=64) (j:=j) al rfl aa ab) ?_
  refine SX.QC (aI ((av l 48).getD j 0)) (fun α=>iC (u:=(av l 48)) (k:=j) (by rw [hu];kernel_rfl) aa (by rw [hL];omega)) ?_
  refine SX.QF (aI ((((v.h+(sig v.e 6 11 25))+(v.g^^^(v.e&&&(v.f^^^v.g))))+kn)+((av l 48).getD j 0))) (cI (((v.h+(sig v.e 6 11 25))+(v.g^^^(v.e&&&(v.f^^^v.g))))+kn) ((av l 48).getD j 0)) ?_
  refine SX.QC (aI (sig v.a 2 13 22)) (fun α=>⟨[⟨aI v.a,0,[]⟩,⟨.int .i64 2,0,[]⟩,⟨.int .i64 13,0,[]⟩,⟨.int .i64 22,0,[]⟩],⟨aa,aa,aa,aa,aa,aa,aa,aa,trivial⟩,.inr (.inl ⟨rfl,v.a,2,13,22,aj,aj,aj,rfl,rfl⟩),SX.ap rfl⟩) ?_
  refine SX.QF (aI (v.a&&&v.b)) (pO v.a v.b) ?_
  refine SX.QF (aI (v.a|||v.b)) (sM v.a v.b) ?_
  refine SX.QF (aI (v.c&&&(v.a|||v.b))) (pO v.c (v.a|||v.b)) ?_
  refine SX.QF (aI ((v.a&&&v.b)|||(v.c&&&(v.a|||v.b)))) (sM (v.a&&&v.b) (v.c&&&(v.a|||v.b))) ?_
  refine SX.QF (aI ((sig v.a 2 13 22)+((v.a&&&v.b)|||(v.c&&&(v.a|||v.b))))) (cI (sig v.a 2 13 22) ((v.a&&&v.b)|||(v.c&&&(v.a|||v.b)))) ?_
  refine SX.QF (aI (v.d+((((v.h+(sig v.e 6 11 25))+(v.g^^^(v.e&&&(v.f^^^v.g))))+kn)+((av l 48).getD j 0)))) (cI v.d ((((v.h+(sig v.e 6 11 25))+(v.g^^^(v.e&&&(v.f^^^v.g))))+kn)+((av l 48).getD j 0))) ?_
  refine SX.QF (aI (((((v.h+(sig v.e 6 11 25))+(v.g^^^(v.e&&&(v.f^^^v.g))))+kn)+((av l 48).getD j 0))+((sig v.a 2 13 22)+((v.a&&&v.b)|||(v.c&&&(v.a|||v.b)))))) (cI ((((v.h+(sig v.e 6 11 25))+(v.g^^^(v.e&&&(v.f^^^v.g))))+kn)+((av l 48).getD j 0)) ((sig v.a 2 13 22)+((v.a&&&v.b)|||(v.c&&&(v.a|||v.b))))) ?_
  refine SX.QF (.int .i64 ((j+1:Nat):Int)) (B7 (a:=j) (b:=1) (d:=j+1) rfl ab) ?_
  exact bW rfl (fun α=>⟨j+1,Eq.trans (b:=.int .i64 ((j+1:Nat):Int)::(v.jM kn ((av l 48).getD j 0)).cells) aa (by rw [ux hv hkn2]),ab⟩) (fun α=>cast aa (show 64-(j+1)<64-j by omega))
 obtain rfl:j=64:=by simp only [decide_eq_false_iff_not]at hge;omega
 refine SX.QF (aI (s.a+v.a)) (cI s.a v.a) ?_
 refine SX.QF (aI (s.b+v.b)) (cI s.b v.b) ?_
 refine SX.QF (aI (s.c+v.c)) (cI s.c v.c) ?_
 refine SX.QF (aI (s.d+v.d)) (cI s.d v.d) ?_
 refine SX.QF (aI (s.e+v.e)) (cI s.e v.e) ?_
 refine SX.QF (aI (s.f+v.f)) (cI s.f v.f) ?_
 refine SX.QF (aI (s.g+v.g)) (cI s.g v.g) ?_
 refine SX.QF (aI (s.h+v.h)) (cI s.h v.h) ?_
 exact SX.aK fun α W hF _ hS=>fin α W _ _ _ _ _ rfl (Eq.trans (b:=(⟨s.a+v.a,s.b+v.b,s.c+v.c,s.d+v.d,s.e+v.e,s.f+v.f,s.g+v.g,s.h+v.h⟩:S8).cells) aa (by rw [qt hv])) hF hS
def cP:S8:=⟨0x6a09e667,0xbb67ae85,0x3c6ef372,0xa54ff53a,0x510e527f,0x9b05688c,0x1f83d9ab,0x5be0cd19⟩
def cG(s:S8)(l:List W8):S8×List W8:=if 64≤l.length then cG (bK s (l.take 64)) (l.drop 64)else(s,l)
termination_by l.length
decreasing_by simp only [List.length_drop];omega
theorem fu{s:S8}{l:List W8}(h:64≤l.length):cG s l=cG (bK s (l.take 64)) (l.drop 64):=by rw [cG,if_pos h]
theorem gX{s:S8}{l:List W8}(h:¬ 64≤l.length):cG s l=(s,l):=by rw [cG,if_neg h]
def ax(n k:Nat):W8:=BitVec.ofNat 8 (n / 2 ^ k)
def mB(n:Nat):List W8:=[ax n 56,ax n 48,ax n 40,ax n 32,ax n 24,ax n 16,ax n 8,ax n 0]
def xE(x:cm):List W8:=[ax x.toNat 24,ax x.toNat 16,ax x.toNat 8,ax x.toNat 0]
def marked(r:List W8):List W8:=(r++List.replicate (64-r.length) 0).set r.length 128
def DX(s:S8):List W8:=xE s.a++xE s.b++xE s.c++xE s.d++xE s.e++xE s.f++xE s.g++xE s.h
def Dw(s:S8)(r:List W8)(n:Nat):S8 :=
 if 55<r.length then bK (bK s (marked r)) (List.replicate 56 0++mB (8*n))else bK s ((marked r).take 56++mB (8*n))
def dv(l:List W8):List W8:=DX (Dw (cG cP l).1 (cG cP l).2 l.length)
theorem li(l:List W8):(dv l).length=32:=rfl
theorem Cd(l:List W8)(h:l.length=64):∃ g:Nat→W8,l=(List.range 64).map g:=by
 refine⟨fun j=>l.getD j 0,?_⟩
 apply List.ext_getElem
 ·simp [h]
 intro j h1 h2
 simp [List.getD_eq_getElem?_getD,h1]
theorem B3:∀ l:List W8,l.flatMap c8=l.map w8
 | []=>rfl
 | x::l=>by simp [c8,B3 l]
theorem On(N k:Nat)(hk:k<64):SX.aZ .shr (.int .u64 (N:Int)) (.int .i64 (k:Int))=some (.int .u64 ((N / 2 ^ k:Nat):Int)):=by
 have h1:¬ ((k:Int)<0):=ab
 have h2:min k 64=k:=ab
 simp only [SX.aZ,h1,if_false,Int.toNat_natCast,IntKind.bits,h2]
 congr 2
 rw [show((2:Int) ^ k)=((2 ^ k:Nat):Int) by simp,Int.fdiv_eq_ediv_of_nonneg _ (Int.natCast_nonneg _)]
 exact(Int.natCast_ediv _ _).symm
theorem wO(n:Nat)(k:IntKind)(h:n<2 ^ 60):SX.fF .u64 (.int k (n:Int))=some (.int .u64 (n:Int)):=by
 simp only [SX.fF]
 rw [wrap_u64 ab ab]
theorem cV(x:cm):SX.fF .u64 (aI x)=some (.int .u64 (x.toNat:Int)):=wO _ _ (by have:=x.isLt;omega)
theorem BD(n:Nat)(h:n<2 ^ 60):SX.aZ .mul (.int .u64 (n:Int)) (.int .u64 8)=some (.int .u64 ((8*n:Nat):Int)):=by
 simp only [SX.aZ,om,if_true]
 rw [wrap_u64 ab ab]
 congr 2
 omega
theorem Mj(N k:Nat):SX.fF .u8 (.int .u64 ((N / 2 ^ k:Nat):Int))=some (w8 (ax N k)):=u5 _ _
theorem P8{C:SX.Cx}{w0:fB}{ps:List (World→Prop)}{T0:List SX.TF}{R:Ending→World→Prop}{L:List (SX.Cx→List Value→Prop)}{ρ:List Value}{q1 q2:SX.cZ}{a1 a2:List SX.V}{s1 s2:SX.Sh}{t:SX.Tree}(n k:Nat)(kk:SX.VC C w0 ps T0 R L ((ρ++[.int .u64 ((n / 2 ^ k:Nat):Int)])++[w8 (ax n k)]) t)(h:k<64:=by decide) (e1:∀ α,(SX.aZ .shr (.int .u64 (n:Int)) (.int .i64 (k:Int))=some (.int .u64 ((n / 2 ^ k:Nat):Int)))=q1.rel C ρ α a1 (.int .u64 ((n / 2 ^ k:Nat):Int)):=by intro α;kernel_rfl) (e2:∀ α,(SX.fF .u8 (.int .u64 ((n / 2 ^ k:Nat):Int))=some (w8 (ax n k)))=q2.rel C (ρ++[.int .u64 ((n / 2 ^ k:Nat):Int)]) α a2 (w8 (ax n k)):=by intro α;kernel_rfl) (f1:s1.fit (.int .u64 ((n / 2 ^ k:Nat):Int))=true:=by kernel_rfl) (f2:s2.fit (w8 (ax n k))=true:=by kernel_rfl):SX.VC C w0 ps T0 R L ρ (.df q1 a1 s1 (.df q2 a2 s2 t)):=SX.aO _ (fun α=>cast (e1 α) (On n k h)) f1 (SX.aO _ (fun α=>cast (e2 α) (Mj n k)) f2 kk)
theorem gu(a b:Nat):SX.aZ .geq (.int .i64 (a:Int)) (.int .i64 (b:Int))=some (.bool (decide (b≤a))):=by
 have e:decide ((b:Int)≤(a:Int))=decide (b≤a):=by simp only [decide_eq_decide];omega
 rw [← e];rfl
theorem eN(a b:Nat):SX.aZ .gtr (.int .i64 (a:Int)) (.int .i64 (b:Int))=some (.bool (decide (b<a))):=by
 have e:decide ((b:Int)<(a:Int))=decide (b<a):=by simp only [decide_eq_decide];omega
 rw [← e];rfl
def bn(K:SX.QV):Prop:=K (.slice (some ⟨0,0,none⟩) 1 1) 8 cP.cells∧K (.slice (some ⟨1,0,none⟩) 64 64) 1 (ct.flatMap zV)
section
variable {C:SX.Cx}{ρ:List Value}{α:Nat→SX.AV}
theorem zz(hP:C.P=Tryz.prog)(hK:bn C.K){j m:Nat}{l:List W8}{s:S8}{st:List SX.V}(hc:ρ.getD j undef=.agg (l.flatMap c8).toArray)(hl:l.length=64)(hs:SX.ah ρ α st=s.cells):SX.cZ.rel C ρ α (.callp 109 [.row 1 [.x j []]] 138) (.row m::st) (.agg (bK s l).cells.toArray):=by
 refine⟨[⟨(α m).h,1,l.flatMap c8⟩],⟨?_,trivial⟩,?_⟩
 ·simp only [SX.ah,SX.V.den,List.foldl_nil,hc,List.flatMap_cons,List.flatMap_nil,List.append_nil,SX.ae]
 show SX.xh C _ _ (SX.ah ρ α st) _ _
 rw [hs]
 exact qu C hP hK.2 s l hl _
theorem my(hP:C.P=Tryz.prog)(hK:bn C.K){cs:List SX.V}{v:SX.V}{l:List W8}{s:S8}{st:List SX.V}(hc:SX.ah ρ α cs=l.flatMap c8)(hl:l.length=64)(hs:SX.ah ρ α st=s.cells):SX.cZ.rel C ρ α (.callp 109 [.own 1 cs] 138) (v::st) (.agg (bK s l).cells.toArray):=by
 refine⟨[⟨v.den ρ α,1,l.flatMap c8⟩],⟨by rw [hc],trivial⟩,?_⟩
 show SX.xh C _ _ (SX.ah ρ α st) _ _
 rw [hs]
 exact qu C hP hK.2 s l hl _
theorem k8{c:SX.V}{l:List W8}(hc:SX.ae (c.den ρ α)=l.flatMap c8):SX.cZ.rel C ρ α (.rlen 1) [c] (.int .i64 (l.length:Int)):=by
 show _=_
 rw [hc,SX.aL aQ,Nat.mul_one,Nat.div_one]
theorem E5{c i:SX.V}{l:List W8}{k:Nat}(hc:SX.ae (c.den ρ α)=l.flatMap c8)(hi:i.den ρ α=.int .i64 (k:Int))(hk:k≤l.length):SX.cZ.rel C ρ α (.slcx 1 false true) [c,i] (.agg ((l.take k).flatMap c8).toArray):=by
 refine⟨0,k,l.length,none,some (.int .i64 (k:Int)),?_,?_,?_⟩
 ·simp [SX.ah,hi,SX.jC]
 ·rw [hc,SX.aL aQ]
  simp only [SX.b7,Nat.mul_one,Nat.div_one,Option.bind_some,SX.iN]
  rw [if_pos ab]
  simp
 rw [hc,← SX.jv aQ];simp
theorem E4{c i:SX.V}{l:List W8}{k:Nat}(hc:SX.ae (c.den ρ α)=l.flatMap c8)(hi:i.den ρ α=.int .i64 (k:Int))(hk:k≤l.length):SX.cZ.rel C ρ α (.slcx 1 true false) [c,i] (.agg ((l.drop k).flatMap c8).toArray):=by
 refine⟨k,l.length,l.length,some (.int .i64 (k:Int)),none,?_,?_,?_⟩
 ·simp [SX.ah,hi,SX.jC]
 ·rw [hc,SX.aL aQ]
  simp only [SX.b7,Nat.mul_one,Nat.div_one,Option.bind_some,SX.iN]
  rw [if_pos ab]
  simp
 rw [hc,← SX.fZ aQ,List.take_of_length_le]
 rw [List.length_drop,SX.aL aQ];omega
theorem zW(l:List W8):∀ u∈l.flatMap c8,u.oneCell'=true:=fun u hu=>by
 obtain⟨a,_,h⟩:=List.mem_flatMap.1 hu
 obtain rfl:u=w8 a:=by simpa [c8]using h
 rfl
theorem ML{c y:SX.V}{l z:List W8}{k:Nat}(hc:SX.ae (c.den ρ α)=z.flatMap c8)(hy:SX.ae (y.den ρ α)=l.flatMap c8)(hl:l.length≤k):SX.cZ.rel C ρ α (.cpyx k) [c,y] (.tuple #[.int .i64 (l.length:Int),.agg ((l++z.drop l.length).flatMap c8).toArray]):=by
 refine⟨by rw [hy];exact zW l,?_⟩
 rw [hy,hc]
 have e:Nat.min (l.flatMap c8).length k=l.length:=by rw [SX.aL aQ];show min _ _=_;omega
 rw [e]
 have e2:(z.flatMap c8).drop l.length=(z.drop l.length).flatMap c8:=by rw [← SX.fZ aQ,Nat.mul_one]
 rw [e2,List.take_of_length_le (by rw [SX.aL aQ];omega),List.flatMap_append]
theorem NS{c i x:SX.V}{u:List W8}{k:Nat}{y:W8}(hc:SX.ae (c.den ρ α)=u.flatMap c8)(hi:i.den ρ α=.int .i64 (k:Int))(hx:x.den ρ α=w8 y)(hk:k<u.length):SX.cZ.rel C ρ α (.rset 1 0) [c,i,x] (.agg ((u.set k y).flatMap c8).toArray) :=
 SX.JY aQ ab hc hi hk (by simp [SX.ah,hx,c8])
end
theorem O5{n:Nat}(l:List W8)(h:l.length=n):(SX.Sh.ag n).fit (.agg (l.flatMap c8).toArray)=true:=by
 simp only [SX.Sh.fit,SX.aL aQ,Nat.mul_one,h,beq_self_eq_true,Bool.true_and,List.all_eq_true]
 exact zW l
noncomputable def M2(K A:SX.QV):SX.Cx:={ P:=Tryz.prog,R:=fun _ f xs v=>False,shp:=fun f=>none,K:=K,A:=A,arr:=true,trm:=true,cp:=fun f=>if f=109 then some 8 else none }
theorem Ld(K A:SX.QV):(M2 K A).Ok:=SX.Cx.b6 al fun _ f xs v W h=>h.elim
def xC:List SX.V:=[.x 0 []]
def sJ:SX.Tree :=
(.df (.elems 8 0 8) [(.k (.slice (some ⟨0,0,none⟩) 1 1)),(.i 0)] (.ag 8)
(.df (.kext 1) [(.q 0)] .any
(.loop [(.cat [(.q 2)]),(.x 1 [0]),(.x 1 [1]),(.x 1 [2]),(.x 1 [3]),(.x 1 [4]),(.x 1 [5]),(.x 1 [6]),(.x 1 [7])] ([.any]++SX.QL 8 .one)
(.df (.rlen 1) [(.cat [(.q 3)])] .one
(.df (.bin .geq 3) [(.q 12),(.i 64)] .one
(.br 13 []
(.df (.slcx 1 false true) [(.cat [(.q 3)]),(.i 64)] .any
(.df (.callp 109 [(.row 1 [(.q 14)])] 138) [(.row 12),(.q 4),(.q 5),(.q 6),(.q 7),(.q 8),(.q 9),(.q 10),(.q 11)] (.ag 8)
(.df (.slcx 1 true false) [(.cat [(.q 3)]),(.i 64)] .any
(.again 0 [(.cat [(.q 16)]),(.x 15 [0]),(.x 15 [1]),(.x 15 [2]),(.x 15 [3]),(.x 15 [4]),(.x 15 [5]),(.x 15 [6]),(.x 15 [7])]))))
(.df (.cpyx 64) [(.a (SX.QL 64 (.k (.int .u8 0)))),(.cat [(.q 3)])] (.tp [.one,(.ag 64)])
(.df (.rlen 1) [(.cat [(.q 3)])] .one
(.df .bnd [(.sl 12 0 64 128),(.q 15)] .one
(.df (.rset 1 0) [(.cat [(.a [(.x 14 [1,0]),(.x 14 [1,1]),(.x 14 [1,2]),(.x 14 [1,3]),(.x 14 [1,4]),(.x 14 [1,5]),(.x 14 [1,6]),(.x 14 [1,7]),(.x 14 [1,8]),(.x 14 [1,9]),(.x 14 [1,10]),(.x 14 [1,11]),(.x 14 [1,12]),(.x 14 [1,13]),(.x 14 [1,14]),(.x 14 [1,15]),(.x 14 [1,16]),(.x 14 [1,17]),(.x 14 [1,18]),(.x 14 [1,19]),(.x 14 [1,20]),(.x 14 [1,21]),(.x 14 [1,22]),(.x 14 [1,23]),(.x 14 [1,24]),(.x 14 [1,25]),(.x 14 [1,26]),(.x 14 [1,27]),(.x 14 [1,28]),(.x 14 [1,29]),(.x 14 [1,30]),(.x 14 [1,31]),(.x 14 [1,32]),(.x 14 [1,33]),(.x 14 [1,34]),(.x 14 [1,35]),(.x 14 [1,36]),(.x 14 [1,37]),(.x 14 [1,38]),(.x 14 [1,39]),(.x 14 [1,40]),(.x 14 [1,41]),(.x 14 [1,42]),(.x 14 [1,43]),(.x 14 [1,44]),(.x 14 [1,45]),(.x 14 [1,46]),(.x 14 [1,47]),(.x 14 [1,48]),(.x 14 [1,49]),(.x 14 [1,50]),(.x 14 [1,51]),(.x 14 [1,52]),(.x 14 [1,53]),(.x 14 [1,54]),(.x 14 [1,55]),(.x 14 [1,56]),(.x 14 [1,57]),(.x 14 [1,58]),(.x 14 [1,59]),(.x 14 [1,60]),(.x 14 [1,61]),(.x 14 [1,62]),(.x 14 [1,63])])]),(.q 15),(.k (.int .u8 128))] (.ag 64)
(.df (.rlen 1) [(.cat [(.q 3)])] .one
(.df (.bin .gtr 3) [(.q 18),(.i 55)] .one
(.br 19 []
(.df (.len false) [(.q 0)] .one
(.df (.conv .u64) [(.q 20)] .one
(.df (.bin .mul 140) [(.q 21),(.k (.int .u64 8))] .one
(.df (.bin .shr 140) [(.q 22),(.i 0)] .one
(.df (.conv .u8) [(.q 23)] .one
(.df (.bin .shr 140) [(.q 22),(.i 8)] .one
(.df (.conv .u8) [(.q 25)] .one
(.df (.bin .shr 140) [(.q 22),(.i 16)] .one
(.df (.conv .u8) [(.q 27)] .one
(.df (.bin .shr 140) [(.q 22),(.i 24)] .one
(.df (.conv .u8) [(.q 29)] .one
(.df (.bin .shr 140) [(.q 22),(.i 32)] .one
(.df (.conv .u8) [(.q 31)] .one
(.df (.bin .shr 140) [(.q 22),(.i 40)] .one
(.df (.conv .u8) [(.q 33)] .one
(.df (.bin .shr 140) [(.q 22),(.i 48)] .one
(.df (.conv .u8) [(.q 35)] .one
(.df (.bin .shr 140) [(.q 22),(.i 56)] .one
(.df (.conv .u8) [(.q 37)] .one
(.df (.callp 109 [(.own 1 (SX.QJ 17 0 64))] 138) [(.sl 12 0 64 128),(.q 4),(.q 5),(.q 6),(.q 7),(.q 8),(.q 9),(.q 10),(.q 11)] (.ag 8)
(.df (.callp 109 [(.own 1 (SX.QL 56 (.k (.int .u8 0))++[(.q 38),(.q 36),(.q 34),(.q 32),(.q 30),(.q 28),(.q 26),(.q 24)]))] 138) [(.sl 12 64 64 64),(.x 39 [0]),(.x 39 [1]),(.x 39 [2]),(.x 39 [3]),(.x 39 [4]),(.x 39 [5]),(.x 39 [6]),(.x 39 [7])] (.ag 8)
(.df (.conv .u64) [(.x 40 [0])] .one
(.df (.bin .shr 140) [(.q 41),(.i 0)] .one
(.df (.conv .u8) [(.q 42)] .one
(.df (.bin .shr 140) [(.q 41),(.i 8)] .one
(.df (.conv .u8) [(.q 44)] .one
(.df (.bin .shr 140) [(.q 41),(.i 16)] .one
(.df (.conv .u8) [(.q 46)] .one
(.df (.bin .shr 140) [(.q 41),(.i 24)] .one
(.df (.conv .u8) [(.q 48)] .one
(.df (.conv .u64) [(.x 40 [1])] .one
(.df (.bin .shr 140) [(.q 50),(.i 0)] .one
(.df (.conv .u8) [(.q 51)] .one
(.df (.bin .shr 140) [(.q 50),(.i 8)] .one
(.df (.conv .u8) [(.q 53)] .one
(.df (.bin .shr 140) [(.q 50),(.i 16)] .one
(.df (.conv .u8) [(.q 55)] .one
(.df (.bin .shr 140) [(.q 50),(.i 24)] .one
(.df (.conv .u8) [(.q 57)] .one
(.df (.conv .u64) [(.x 40 [2])] .one
(.df (.bin .shr 140) [(.q 59),(.i 0)] .one
(.df (.conv .u8) [(.q 60)] .one
(.df (.bin .shr 140) [(.q 59),(.i 8)] .one
(.df (.conv .u8) [(.q 62)] .one
(.df (.bin .shr 140) [(.q 59),(.i 16)] .one
(.df (.conv .u8) [(.q 64)] .one
(.df (.bin .shr 140) [(.q 59),(.i 24)] .one
(.df (.conv .u8) [(.q 66)] .one
(.df (.conv .u64) [(.x 40 [3])] .one
(.df (.bin .shr 140) [(.q 68),(.i 0)] .one
(.df (.conv .u8) [(.q 69)] .one
(.df (.bin .shr 140) [(.q 68),(.i 8)] .one
(.df (.conv .u8) [(.q 71)] .one
(.df (.bin .shr 140) [(.q 68),(.i 16)] .one
(.df (.conv .u8) [(.q 73)] .one
(.df (.bin .shr 140) [(.q 68),(.i 24)] .one
(.df (.conv .u8) [(.q 75)] .one
(.df (.conv .u64) [(.x 40 [4])] .one
(.df (.bin .shr 140) [(.q 77),(.i 0)] .one
(.df (.conv .u8) [(.q 78)] .one
(.df (.bin .shr 140) [(.q 77),(.i 8)] .one
(.df (.conv .u8) [(.q 80)] .one
(.df (.bin .shr 140) [(.q 77),(.i 16)] .one
(.df (.conv .u8) [(.q 82)] .one
(.df (.bin .shr 140) [(.q 77),(.i 24)] .one
(.df (.conv .u8) [(.q 84)] .one
(.df (.conv .u64) [(.x 40 [5])] .one
(.df (.bin .shr 140) [(.q 86),(.i 0)] .one
(.df (.conv .u8) [(.q 87)] .one
(.df (.bin .shr 140) [(.q 86),(.i 8)] .one
(.df (.conv .u8) [(.q 89)] .one
(.df (.bin .shr 140) [(.q 86),(.i 16)] .one
(.df (.conv .u8) [(.q 91)] .one
(.df (.bin .shr 140) [(.q 86),(.i 24)] .one
(.df (.conv .u8) [(.q 93)] .one
(.df (.conv .u64) [(.x 40 [6])] .one
(.df (.bin .shr 140) [(.q 95),(.i 0)] .one
(.df (.conv .u8) [(.q 96)] .one
(.df (.bin .shr 140) [(.q 95),(.i 8)] .one
(.df (.conv .u8) [(.q 98)] .one
(.df (.bin .shr 140) [(.q 95),(.i 16)] .one
(.df (.conv .u8) [(.q 100)] .one
(.df (.bin .shr 140) [(.q 95),(.i 24)] .one
(.df (.conv .u8) [(.q 102)] .one
(.df (.conv .u64) [(.x 40 [7])] .one
(.df (.bin .shr 140) [(.q 104),(.i 0)] .one
(.df (.conv .u8) [(.q 105)] .one
(.df (.bin .shr 140) [(.q 104),(.i 8)] .one
(.df (.conv .u8) [(.q 107)] .one
(.df (.bin .shr 140) [(.q 104),(.i 16)] .one
(.df (.conv .u8) [(.q 109)] .one
(.df (.bin .shr 140) [(.q 104),(.i 24)] .one
(.df (.conv .u8) [(.q 111)] .one
(.ret (.a [(.q 49),(.q 47),(.q 45),(.q 43),(.q 58),(.q 56),(.q 54),(.q 52),(.q 67),(.q 65),(.q 63),(.q 61),(.q 76),(.q 74),(.q 72),(.q 70),(.q 85),(.q 83),(.q 81),(.q 79),(.q 94),(.q 92),(.q 90),(.q 88),(.q 103),(.q 101),(.q 99),(.q 97),(.q 112),(.q 110),(.q 108),(.q 106)]) [] []))))))))))))))))))))))))))))))))))))))))))))))))))))))))))))))))))))))))))))))))))))))))))))))
(.df (.len false) [(.q 0)] .one
(.df (.conv .u64) [(.q 20)] .one
(.df (.bin .mul 140) [(.q 21),(.k (.int .u64 8))] .one
(.df (.bin .shr 140) [(.q 22),(.i 0)] .one
(.df (.conv .u8) [(.q 23)] .one
(.df (.bin .shr 140) [(.q 22),(.i 8)] .one
(.df (.conv .u8) [(.q 25)] .one
(.df (.bin .shr 140) [(.q 22),(.i 16)] .one
(.df (.conv .u8) [(.q 27)] .one
(.df (.bin .shr 140) [(.q 22),(.i 24)] .one
(.df (.conv .u8) [(.q 29)] .one
(.df (.bin .shr 140) [(.q 22),(.i 32)] .one
(.df (.conv .u8) [(.q 31)] .one
(.df (.bin .shr 140) [(.q 22),(.i 40)] .one
(.df (.conv .u8) [(.q 33)] .one
(.df (.bin .shr 140) [(.q 22),(.i 48)] .one
(.df (.conv .u8) [(.q 35)] .one
(.df (.bin .shr 140) [(.q 22),(.i 56)] .one
(.df (.conv .u8) [(.q 37)] .one
(.df (.callp 109 [(.own 1 (SX.QJ 17 0 56++[(.q 38),(.q 36),(.q 34),(.q 32),(.q 30),(.q 28),(.q 26),(.q 24)]))] 138) [(.sl 12 0 64 128),(.q 4),(.q 5),(.q 6),(.q 7),(.q 8),(.q 9),(.q 10),(.q 11)] (.ag 8)
(.df (.conv .u64) [(.x 39 [0])] .one
(.df (.bin .shr 140) [(.q 40),(.i 0)] .one
(.df (.conv .u8) [(.q 41)] .one
(.df (.bin .shr 140) [(.q 40),(.i 8)] .one
(.df (.conv .u8) [(.q 43)] .one
(.df (.bin .shr 140) [(.q 40),(.i 16)] .one
(.df (.conv .u8) [(.q 45)] .one
(.df (.bin .shr 140) [(.q 40),(.i 24)] .one
(.df (.conv .u8) [(.q 47)] .one
(.df (.conv .u64) [(.x 39 [1])] .one
(.df (.bin .shr 140) [(.q 49),(.i 0)] .one
(.df (.conv .u8) [(.q 50)] .one
(.df (.bin .shr 140) [(.q 49),(.i 8)] .one
(.df (.conv .u8) [(.q 52)] .one
(.df (.bin .shr 140) [(.q 49),(.i 16)] .one
(.df (.conv .u8) [(.q 54)] .one
(.df (.bin .shr 140) [(.q 49),(.i 24)] .one
(.df (.conv .u8) [(.q 56)] .one
(.df (.conv .u64) [(.x 39 [2])] .one
(.df (.bin .shr 140) [(.q 58),(.i 0)] .one
(.df (.conv .u8) [(.q 59)] .one
(.df (.bin .shr 140) [(.q 58),(.i 8)] .one
(.df (.conv .u8) [(.q 61)] .one
(.df (.bin .shr 140) [(.q 58),(.i 16)] .one
(.df (.conv .u8) [(.q 63)] .one
(.df (.bin .shr 140) [(.q 58),(.i 24)] .one
(.df (.conv .u8) [(.q 65)] .one
(.df (.conv .u64) [(.x 39 [3])] .one
(.df (.bin .shr 140) [(.q 67),(.i 0)] .one
(.df (.conv .u8) [(.q 68)] .one
(.df (.bin .shr 140) [(.q 67),(.i 8)] .one
(.df (.conv .u8) [(.q 70)] .one
(.df (.bin .shr 140) [(.q 67),(.i 16)] .one
(.df (.conv .u8) [(.q 72)] .one
(.df (.bin .shr 140) [(.q 67),(.i 24)] .one
(.df (.conv .u8) [(.q 74)] .one
(.df (.conv .u64) [(.x 39 [4])] .one
(.df (.bin .shr 140) [(.q 76),(.i 0)] .one
(.df (.conv .u8) [(.q 77)] .one
(.df (.bin .shr 140) [(.q 76),(.i 8)] .one
(.df (.conv .u8) [(.q 79)] .one
(.df (.bin .shr 140) [(.q 76),(.i 16)] .one
(.df (.conv .u8) [(.q 81)] .one
(.df (.bin .shr 140) [(.q 76),(.i 24)] .one
(.df (.conv .u8) [(.q 83)] .one
(.df (.conv .u64) [(.x 39 [5])] .one
(.df (.bin .shr 140) [(.q 85),(.i 0)] .one
(.df (.conv .u8) [(.q 86)] .one
(.df (.bin .shr 140) [(.q 85),(.i 8)] .one
(.df (.conv .u8) [(.q 88)] .one
(.df (.bin .shr 140) [(.q 85),(.i 16)] .one
(.df (.conv .u8) [(.q 90)] .one
(.df (.bin .shr 140) [(.q 85),(.i 24)] .one
(.df (.conv .u8) [(.q 92)] .one
(.df (.conv .u64) [(.x 39 [6])] .one
(.df (.bin .shr 140) [(.q 94),(.i 0)] .one
(.df (.conv .u8) [(.q 95)] .one
(.df (.bin .shr 140) [(.q 94),(.i 8)] .one
(.df (.conv .u8) [(.q 97)] .one
(.df (.bin .shr 140) [(.q 94),(.i 16)] .one
(.df (.conv .u8) [(.q 99)] .one
(.df (.bin .shr 140) [(.q 94),(.i 24)] .one
(.df (.conv .u8) [(.q 101)] .one
(.df (.conv .u64) [(.x 39 [7])] .one
(.df (.bin .shr 140) [(.q 103),(.i 0)] .one
(.df (.conv .u8) [(.q 104)] .one
(.df (.bin .shr 140) [(.q 103),(.i 8)] .one
(.df (.conv .u8) [(.q 106)] .one
(.df (.bin .shr 140) [(.q 103),(.i 16)] .one
(.df (.conv .u8) [(.q 108)] .one
(.df (.bin .shr 140) [(.q 103),(.i 24)] .one
(.df (.conv .u8) [(.q 110)] .one
(.ret (.a [(.q 48),(.q 46),(.q 44),(.q 42),(.q 57),(.q 55),(.q 53),(.q 51),(.q 66),(.q 64),(.q 62),(.q 60),(.q 75),(.q 73),(.q 71),(.q 69),(.q 84),(.q 82),(.q 80),(.q 78),(.q 93),(.q 91),(.q 89),(.q 87),(.q 102),(.q 100),(.q 98),(.q 96),(.q 111),(.q 109),(.q 107),(.q 105)]) [] []))))))))))))))))))))))))))))))))))))))))))))))))))))))))))))))))))))))))))))))))))))))))))))))))))))))))))
theorem J7(K A:SX.QV):SX.QU (M2 K A) ⟨fun _=>true,[⟨78,4,((.s 5,.ext 1)::(List.range 8).map fun j=>(.c 1 j,.one))⟩],0,100⟩ 78 Tryz.f78 xC [.any]=sJ:=aa
def KS(A:Option Addr)(n c:Nat)(l:List W8)(v:Value)(z:Nat)(xs:List Value):Prop:=(v=.slice A n c∧z=1∧xs=l.flatMap c8)∨(v=.slice (some ⟨0,0,none⟩) 1 1∧z=8∧xs=cP.cells)∨(v=.slice (some ⟨1,0,none⟩) 64 64∧z=1∧xs=ct.flatMap zV)
def Laid(w:World):Prop:=Rd w 8 (some ⟨0,0,none⟩) 1 cP.cells∧Rd w 1 (some ⟨1,0,none⟩) 64 (ct.flatMap zV)
theorem Ke(l:List W8)(hn60:l.length<2 ^ 60)(A:Option Addr)(n c:Nat)(w:World)(hr:Rd w 1 A n (l.flatMap c8))(hc:n≤c)(hlaid:Laid w):RT 78 #[.slice A n c] w (.agg ((dv l).flatMap c8).toArray):=by
 have hln:l.length=n:=by have:=hr.1;rw [SX.aL aQ]at this;omega
 refine SX.b8 (C:=M2 (KS A n c l) (KS A n c l)) (G:=⟨fun _=>true,[⟨78,4,((.s 5,.ext 1)::(List.range 8).map fun j=>(.c 1 j,.one))⟩],0,100⟩) (args:=xC) (sh:=[.any]) (ρ:=[.slice A n c]) 100000 sJ (Ld _ _) Tryz.func78 rfl (cast aa (J7 (KS A n c l) (KS A n c l))) aa aa aa ?_ ?_
 ·rintro W hW v z xs (⟨rfl,rfl,rfl⟩|⟨rfl,rfl,rfl⟩|⟨rfl,rfl,rfl⟩)
  ·exact⟨hr.aJ hW,hc⟩
  ·exact⟨hlaid.1.aJ hW,Nat.le_refl _⟩
  exact⟨hlaid.2.aJ hW,Nat.le_refl _⟩
 have hL:bn (M2 (KS A n c l) (KS A n c l)).K:=⟨.inr (.inl ⟨rfl,rfl,rfl⟩),.inr (.inr ⟨rfl,rfl,rfl⟩)⟩
 have hPr:(M2 (KS A n c l) (KS A n c l)).P=Tryz.prog:=rfl
 have hin:(KS A n c l) (.slice A n c) 1 (l.flatMap c8):=.inl ⟨rfl,rfl,rfl⟩
 unfold sJ
 refine SX.QC (.agg cP.cells.toArray) (fun α=>SX.im (f:=S8.cells) (l:=[cP]) (A:=some ⟨0,0,none⟩) (n:=1) (c:=1) (j:=0) (z:=cP) al al rfl aa ab (cast aa hL.1) rfl) ?_
 refine SX.QC (.agg (l.flatMap c8).toArray) (fun α=>⟨l.flatMap c8,⟨A,n,c,rfl,hc⟩,hin,hin,rfl⟩) ?_
 refine SX.ck (fun xs=>∃ (s:S8) (r:List W8),xs=.agg (r.flatMap c8).toArray::s.cells∧cG s r=cG cP l) (fun xs=>match xs with|.agg cs::_=>cs.toList.length|_=>0) (fun α=>⟨cP,l,Eq.trans (b:=(.agg (SX.ae (.agg (l.flatMap c8).toArray)++[]).toArray)::cP.cells) aa (by rw [List.append_nil];rfl),rfl⟩) ?_
 rintro xs-⟨s,r,rfl,hI⟩
 have hcat:∀ (α:Nat→SX.AV) (t:List Value),SX.ae ((SX.V.cat [.x 3 []]).den ([.slice A n c]++[.agg cP.cells.toArray]++[.agg (l.flatMap c8).toArray]++(.agg (r.flatMap c8).toArray::s.cells)++t) α)=r.flatMap c8:=fun α t=>SX.bz aa
 refine SX.QC (.int .i64 (r.length:Int)) (fun α=>k8 (SX.bz (j:=3) aa)) ?_
 refine SX.QF (.bool (decide (64≤r.length))) (gu r.length 64) ?_
 refine SX.QD (decide (64≤r.length)) (fun h64=>?_) (fun h64=>?_)
 ·have h64:64≤r.length:=af h64
  have ht:(r.take 64).length=64:=by rw [List.length_take];omega
  refine SX.QC (.agg ((r.take 64).flatMap c8).toArray) (fun α=>E5 (k:=64) (SX.bz (j:=3) aa) aa h64) ?_
  refine SX.QC (.agg (bK s (r.take 64)).cells.toArray) (fun α=>zz hPr hL (l:=r.take 64) (s:=s) aa ht aa) ?_
  refine SX.QC (.agg ((r.drop 64).flatMap c8).toArray) (fun α=>E4 (k:=64) (SX.bz (j:=3) aa) aa h64) ?_
  exact bW rfl (fun α=>⟨bK s (r.take 64),r.drop 64,Eq.trans (b:=(.agg (SX.ae (.agg ((r.drop 64).flatMap c8).toArray)++[]).toArray)::(bK s (r.take 64)).cells) aa (by rw [List.append_nil];rfl),by rw [← hI,fu h64]⟩) (fun α=>cast aa (show(((r.drop 64).flatMap c8)++[]).length<(r.flatMap c8).length by rw [List.append_nil,SX.aL aQ,SX.aL aQ,List.length_drop];omega))
 have h64:¬ 64≤r.length:=af h64
 rw [gX h64]at hI
 have e1:(cG cP l).1=s:=by rw [← hI]
 have e2:(cG cP l).2=r:=by rw [← hI]
 have hp:(r++(List.replicate 64 (0:W8)).drop r.length).length=64:=aw
 obtain⟨g1,hg1⟩:=Cd _ hp
 refine SX.QC (.tuple #[.int .i64 (r.length:Int),.agg (((List.range 64).map g1).flatMap c8).toArray]) (fun α=>by rw [← hg1];exact ML (l:=r) (z:=List.replicate 64 0) aa (SX.bz (j:=3) aa) ab) ?_
 refine SX.QC (.int .i64 (r.length:Int)) (fun α=>k8 (SX.bz (j:=3) aa)) ?_
 refine SX.QC (.bool true) (fun α=>SX.cq (A:=some ⟨(α 12).b,0,none⟩) (n:=64) (c:=128) (j:=r.length) al rfl aa ab) ?_
 have hm:(((List.range 64).map g1).set r.length 128:List W8)=marked r:=by rw [← hg1];unfold marked;rw [List.drop_replicate]
 have hml:(marked r).length=64:=by rw [← hm];simp
 obtain⟨g2,hg2⟩:=Cd _ hml
 refine SX.aO (.agg (((List.range 64).map g2).flatMap c8).toArray) (fun α=>by rw [← hg2,← hm];exact NS (u:=(List.range 64).map g1) (k:=r.length) (y:=128) (Eq.trans (b:=SX.ae (.agg (((List.range 64).map g1).flatMap c8).toArray)++[]) aa (List.append_nil _)) aa aa aw) (O5 _ ai) ?_
 refine SX.QC (.int .i64 (r.length:Int)) (fun α=>k8 (SX.bz (j:=3) aa)) ?_
 refine SX.QF (.bool (decide (55<r.length))) (eN r.length 55) ?_
 refine SX.QD (decide (55<r.length)) (fun h55=>?_) (fun h55=>?_)
 ·have h55:55<r.length:=af h55
  refine SX.QB (.int .i64 (n:Int)) ?_
  refine SX.QF (.int .u64 (n:Int)) (wO n .i64 ab) ?_
  refine SX.QF (.int .u64 ((8*n:Nat):Int)) (BD n ab) ?_
  refine P8 (8*n) 0 ?_
  refine P8 (8*n) 8 ?_
  refine P8 (8*n) 16 ?_
  refine P8 (8*n) 24 ?_
  refine P8 (8*n) 32 ?_
  refine P8 (8*n) 40 ?_
  refine P8 (8*n) 48 ?_
  refine P8 (8*n) 56 ?_
  refine SX.QC (.agg (bK s (marked r)).cells.toArray) (fun α=>my hPr hL (l:=marked r) (s:=s) (by rw [hg2];kernel_rfl) hml aa) ?_
  generalize hs1:bK s (marked r)=s1
  refine SX.QC (.agg (bK s1 (List.replicate 56 0++mB (8*n))).cells.toArray) (fun α=>my hPr hL (l:=List.replicate 56 0++mB (8*n)) (s:=s1) aa aa aa) ?_
  generalize hs2:bK s1 (List.replicate 56 0++mB (8*n))=s2
  refine SX.QF (.int .u64 (s2.a.toNat:Int)) (cV s2.a) ?_
  refine P8 s2.a.toNat 0 ?_
  refine P8 s2.a.toNat 8 ?_
  refine P8 s2.a.toNat 16 ?_
  refine P8 s2.a.toNat 24 ?_
  refine SX.QF (.int .u64 (s2.b.toNat:Int)) (cV s2.b) ?_
  refine P8 s2.b.toNat 0 ?_
  refine P8 s2.b.toNat 8 ?_
  refine P8 s2.b.toNat 16 ?_
  refine P8 s2.b.toNat 24 ?_
  refine SX.QF (.int .u64 (s2.c.toNat:Int)) (cV s2.c) ?_
  refine P8 s2.c.toNat 0 ?_
  refine P8 s2.c.toNat 8 ?_
  refine P8 s2.c.toNat 16 ?_
  refine P8 s2.c.toNat 24 ?_
  refine SX.QF (.int .u64 (s2.d.toNat:Int)) (cV s2.d) ?_
  refine P8 s2.d.toNat 0 ?_
  refine P8 s2.d.toNat 8 ?_
  refine P8 s2.d.toNat 16 ?_
  refine P8 s2.d.toNat 24 ?_
  refine SX.QF (.int .u64 (s2.e.toNat:Int)) (cV s2.e) ?_
  refine P8 s2.e.toNat 0 ?_
  refine P8 s2.e.toNat 8 ?_
  refine P8 s2.e.toNat 16 ?_
  refine P8 s2.e.toNat 24 ?_
  refine SX.QF (.int .u64 (s2.f.toNat:Int)) (cV s2.f) ?_
  refine P8 s2.f.toNat 0 ?_
  refine P8 s2.f.toNat 8 ?_
  refine P8 s2.f.toNat 16 ?_
  refine P8 s2.f.toNat 24 ?_
  refine SX.QF (.int .u64 (s2.g.toNat:Int)) (cV s2.g) ?_
  refine P8 s2.g.toNat 0 ?_
  refine P8 s2.g.toNat 8 ?_
  refine P8 s2.g.toNat 16 ?_
  refine P8 s2.g.toNat 24 ?_
  refine SX.QF (.int .u64 (s2.h.toNat:Int)) (cV s2.h) ?_
  refine P8 s2.h.toNat 0 ?_
  refine P8 s2.h.toNat 8 ?_
  refine P8 s2.h.toNat 16 ?_
  refine P8 s2.h.toNat 24 ?_
  exact SX.aK fun α W _ _ hS=>SX.ji (x:=.agg ((DX s2).flatMap c8).toArray) hS aa (by unfold dv Dw;rw [e1,e2,hln,if_pos h55,hs1,hs2])
 have h55:¬ 55<r.length:=af h55
 refine SX.QB (.int .i64 (n:Int)) ?_
 refine SX.QF (.int .u64 (n:Int)) (wO n .i64 ab) ?_
 refine SX.QF (.int .u64 ((8*n:Nat):Int)) (BD n ab) ?_
 refine P8 (8*n) 0 ?_
 refine P8 (8*n) 8 ?_
 refine P8 (8*n) 16 ?_
 refine P8 (8*n) 24 ?_
 refine P8 (8*n) 32 ?_
 refine P8 (8*n) 40 ?_
 refine P8 (8*n) 48 ?_
 refine P8 (8*n) 56 ?_
 refine SX.QC (.agg (bK s ((marked r).take 56++mB (8*n))).cells.toArray) (fun α=>my hPr hL (l:=(marked r).take 56++mB (8*n)) (s:=s) (by rw [hg2];kernel_rfl) (by rw [List.length_append,List.length_take,hml];rfl) aa) ?_
 generalize hs2:bK s ((marked r).take 56++mB (8*n))=s2
 refine SX.QF (.int .u64 (s2.a.toNat:Int)) (cV s2.a) ?_
 refine P8 s2.a.toNat 0 ?_
 refine P8 s2.a.toNat 8 ?_
 refine P8 s2.a.toNat 16 ?_
 refine P8 s2.a.toNat 24 ?_
 refine SX.QF (.int .u64 (s2.b.toNat:Int)) (cV s2.b) ?_
 refine P8 s2.b.toNat 0 ?_
 refine P8 s2.b.toNat 8 ?_
 refine P8 s2.b.toNat 16 ?_
 refine P8 s2.b.toNat 24 ?_
 refine SX.QF (.int .u64 (s2.c.toNat:Int)) (cV s2.c) ?_
 refine P8 s2.c.toNat 0 ?_
 refine P8 s2.c.toNat 8 ?_
 refine P8 s2.c.toNat 16 ?_
 refine P8 s2.c.toNat 24 ?_
 refine SX.QF (.int .u64 (s2.d.toNat:Int)) (cV s2.d) ?_
 refine P8 s2.d.toNat 0 ?_
 refine P8 s2.d.toNat 8 ?_
 refine P8 s2.d.toNat 16 ?_
 refine P8 s2.d.toNat 24 ?_
 refine SX.QF (.int .u64 (s2.e.toNat:Int)) (cV s2.e) ?_
 refine P8 s2.e.toNat 0 ?_
 refine P8 s2.e.toNat 8 ?_
 refine P8 s2.e.toNat 16 ?_
 refine P8 s2.e.toNat 24 ?_
 refine SX.QF (.int .u64 (s2.f.toNat:Int)) (cV s2.f) ?_
 refine P8 s2.f.toNat 0 ?_
 refine P8 s2.f.toNat 8 ?_
 refine P8 s2.f.toNat 16 ?_
 refine P8 s2.f.toNat 24 ?_
 refine SX.QF (.int .u64 (s2.g.toNat:Int)) (cV s2.g) ?_
 refine P8 s2.g.toNat 0 ?_
 refine P8 s2.g.toNat 8 ?_
 refine P8 s2.g.toNat 16 ?_
 refine P8 s2.g.toNat 24 ?_
 refine SX.QF (.int .u64 (s2.h.toNat:Int)) (cV s2.h) ?_
 refine P8 s2.h.toNat 0 ?_
 refine P8 s2.h.toNat 8 ?_
 refine P8 s2.h.toNat 16 ?_
 refine P8 s2.h.toNat 24 ?_
 exact SX.aK fun α W _ _ hS=>SX.ji (x:=.agg ((DX s2).flatMap c8).toArray) hS aa (by unfold dv Dw;rw [e1,e2,hln,if_neg h55,hs2])
theorem ub{n:Nat}(l:List W8)(h:l.length=n):∃ g:Nat→W8,l=(List.range n).map g:=by
 refine⟨fun j=>l.getD j 0,?_⟩
 apply List.ext_getElem
 ·simp [h]
 intro j h1 h2
 simp [List.getD_eq_getElem?_getD,h1]
def zv(K:SX.QV)(f:FuncId)(xs:List SX.Arg)(v:Value):Prop:=f=78∧bn K∧∃ (u:Value) (l:List W8),xs=[⟨u,1,l.flatMap c8⟩]∧l.length<2 ^ 60∧v=.agg ((dv l).flatMap c8).toArray
theorem bF{K:SX.QV}{W:World}(h:bn K)(hK:∀ s sz cells,K s sz cells→SX.Arg.rd W ⟨s,sz,cells⟩):Laid W:=⟨(hK _ _ _ h.1).1,(hK _ _ _ h.2).1⟩
theorem iH{K:SX.QV}{f:FuncId}{xs:List SX.Arg}{v:Value}{W:World}(h:zv K f xs v)(hrd:∀ x∈xs,x.rd W)(hK:∀ s sz cells,K s sz cells→SX.Arg.rd W ⟨s,sz,cells⟩):Calls Tryz.prog f (xs.map SX.Arg.v).toArray W fun e w'=>e=.returned v∧Below W.heap.size W w':=by
 obtain⟨rfl,hL,u,l,rfl,h60,rfl⟩:=h
 obtain⟨A,n,c,rfl,hr,hc,hn⟩:=cT (hrd ⟨u,1,l.flatMap c8⟩ (List.mem_singleton_self _))
 exact Ke l h60 A n c W hr hc (bF hL hK)
def sb(s:ByteArray):List W8:=s.data.toList.map UInt8.toBitVec
theorem lg(s:ByteArray):(sb s).length=s.size:=by
 unfold sb
 rw [List.length_map]
 rfl
theorem nR(s:ByteArray):(s.data.toList.map fun x=>Value.int .u8 (x.toNat:Int))=(sb s).flatMap c8:=by
 unfold sb
 generalize s.data.toList=l
 induction l with
 | nil=>rfl
 | cons a l ih=>simp only [List.map_cons,List.flatMap_cons,← ih];rfl
def kg(t l:List W8):List W8:=dv (dv t++l)
theorem qn{C:SX.Cx}{ρ:List Value}{α:Nat→SX.AV}{x:SX.V}{s:ByteArray}(hx:x.den ρ α=.string s):SX.cZ.rel C ρ α .s2b [x] (.agg ((sb s).flatMap c8).toArray):=⟨s,hx,by rw [nR]⟩
theorem cC{a b d:Nat}(h:a+b=d)(ha:d<2 ^ 62):SX.aZ .add (.int .i64 (a:Int)) (.int .i64 (b:Int))=some (.int .i64 (d:Int)):=by
 simp only [SX.aZ,om,if_true]
 rw [wrap_i64 ab ab]
 congr 2
 omega
theorem mF{a b d:Nat}(h:d+b=a)(ha:a<2 ^ 62):SX.aZ .sub (.int .i64 (a:Int)) (.int .i64 (b:Int))=some (.int .i64 (d:Int)):=by
 simp only [SX.aZ,om,if_true]
 rw [wrap_i64 ab ab]
 congr 2
 omega
theorem dD(a b:Nat):SX.aZ .lss (.int .i64 (a:Int)) (.int .i64 (b:Int))=some (.bool (decide (a<b))):=by
 have e:decide ((a:Int)<(b:Int))=decide (a<b):=by simp only [decide_eq_decide];omega
 rw [← e];rfl
noncomputable def OX(K A:SX.QV):SX.Cx:={ P:=Tryz.prog,R:=zv,shp:=fun f=>if f=78 then some (.ag 32)else none,K:=K,A:=A,arr:=true,trm:=true,cut:=[(6,0,true),(7,1,true)] }
theorem Lf(K A:SX.QV):(OX K A).Ok:=SX.Cx.b6 al fun _ f xs v W h hrd hK=>by
 have hf:=h.1
 exact(iH h hrd hK).mono fun e w' h=>SX.ay (by subst hf;rfl) h
def oZ:List SX.V:=[.x 0 [],.x 1 []]
def lm:SX.Tree :=
(.df .s2b [(.q 0)] .any
(.df (.call 78 [(.row 1 [(.q 2)])]) [(.row 1)] (.ag 32)
(.df (.len false) [(.q 1)] .one
(.df (.bin .add 3) [(.i 32),(.q 4)] .one
(.df (.bin .lss 3) [(.q 5),(.i 0)] .one
(.br 6 [] (.bad 70 [])
(.df (.bin .lss 3) [(.q 5),(.i 0)] .one
(.br 7 [] (.bad 70 [])
(.df (.bin .sub 3) [(.q 5),(.i 0)] .one
(.df (.bin .gtr 3) [(.q 8),(.i 0)] .one
(.br 9 []
(.df (.apz (.int .u8 0) 1 1) [(.q 8)] .any
(.df (.dN 1 1 (.own 1 (SX.QJ 3 0 32))) [(.cat []),(.sl 2 0 32 32)] .any
(.df (.dN 1 1 (.ext 1)) [(.cat [(.q 11)]),(.q 1)] .any
(.df (.call 78 [(.row 1 [(.q 11),(.q 12)])]) [(.row 7)] (.ag 32)
(.ret (.a (SX.QJ 13 0 32)) [] [])))))
(.df (.dN 1 1 (.own 1 (SX.QJ 3 0 32))) [(.cat []),(.sl 2 0 32 32)] .any
(.df (.dN 1 1 (.ext 1)) [(.cat [(.q 10)]),(.q 1)] .any
(.df (.call 78 [(.row 1 [(.q 10),(.q 11)])]) [(.row 5)] (.ag 32)
(.ret (.a (SX.QJ 12 0 32)) [] [])))))))))))))))
theorem Bt(K A:SX.QV):SX.QU (OX K A) ⟨fun _=>true,[],0,100⟩ 43 Tryz.f43 oZ [.one,.one]=lm:=aa
theorem BB(s:ByteArray)(l:List W8)(hs:s.size<2 ^ 60)(hl:l.length<2 ^ 44)(A:Option Addr)(n c:Nat)(w:World)(hr:Rd w 1 A n (l.flatMap c8))(hc:n≤c)(hlaid:Laid w):RT 43 #[.string s,.slice A n c] w (.agg ((kg (sb s) l).flatMap c8).toArray):=by
 have hln:l.length=n:=by have:=hr.1;rw [SX.aL aQ]at this;omega
 refine SX.b8 (C:=OX (KS A n c l) (KS A n c l)) (G:=⟨fun _=>true,[],0,100⟩) (args:=oZ) (sh:=[.one,.one]) (ρ:=[.string s,.slice A n c]) 100000 lm (Lf _ _) Tryz.func43 rfl (cast aa (Bt (KS A n c l) (KS A n c l))) aa aa aa ?_ ?_
 ·rintro W hW v z xs (⟨rfl,rfl,rfl⟩|⟨rfl,rfl,rfl⟩|⟨rfl,rfl,rfl⟩)
  ·exact⟨hr.aJ hW,hc⟩
  ·exact⟨hlaid.1.aJ hW,Nat.le_refl _⟩
  exact⟨hlaid.2.aJ hW,Nat.le_refl _⟩
 have hL:bn (KS A n c l):=⟨.inr (.inl ⟨rfl,rfl,rfl⟩),.inr (.inr ⟨rfl,rfl,rfl⟩)⟩
 have hin:(KS A n c l) (.slice A n c) 1 (l.flatMap c8):=.inl ⟨rfl,rfl,rfl⟩
 have one:∀ a,∀ u∈c8 a,u.oneCell'=true:=fun a u hu=>by
  obtain rfl:u=w8 a:=by simpa [c8]using hu
  rfl
 unfold lm
 refine SX.QC (.agg ((sb s).flatMap c8).toArray) (fun α=>qn aa) ?_
 obtain⟨g,hg⟩:=ub (n:=32) (dv (sb s)) rfl
 refine SX.QC (.agg (((List.range 32).map g).flatMap c8).toArray) (fun α=>by rw [← hg];exact⟨[⟨(α 1).h,1,(sb s).flatMap c8⟩],⟨Eq.trans (b:=⟨(α 1).h,1,(sb s).flatMap c8++[]⟩) (by rw [List.append_nil]) aa,trivial⟩,⟨rfl,hL,_,_,rfl,by rw [lg];omega,rfl⟩,SX.ap rfl⟩) ?_
 refine SX.QB (.int .i64 (n:Int)) ?_
 refine SX.QF (.int .i64 ((32+n:Nat):Int)) (cC (a:=32) (b:=n) (d:=32+n) rfl ab) ?_
 refine SX.QF (.bool false) (show SX.aZ .lss (.int .i64 ((32+n:Nat):Int)) (.int .i64 ((0:Nat):Int))=some (.bool false) from by rw [dD,decide_eq_false ab]) ?_
 refine SX.QD false (fun h=>absurd h ai) (fun _=>?_)
 refine SX.QF (.bool false) (show SX.aZ .lss (.int .i64 ((32+n:Nat):Int)) (.int .i64 ((0:Nat):Int))=some (.bool false) from by rw [dD,decide_eq_false ab]) ?_
 refine SX.QD false (fun h=>absurd h ai) (fun _=>?_)
 refine SX.QF (.int .i64 ((32+n:Nat):Int)) (mF (a:=32+n) (b:=0) (d:=32+n) rfl ab) ?_
 refine SX.QF (.bool true) (show SX.aZ .gtr (.int .i64 ((32+n:Nat):Int)) (.int .i64 ((0:Nat):Int))=some (.bool true) from by rw [eN,decide_eq_true ab]) ?_
 refine SX.QD true (fun _=>?_) (fun h=>absurd h ai)
 refine SX.QC (.agg (madeCells (Value.int .u8 0).cells (((32+n:Nat):Int).toNat*1))) (fun α=>⟨.i64,((32+n:Nat):Int),aa,ab,ab,ab,rfl⟩) ?_
 refine SX.QC (.agg (((List.range 32).map g).flatMap c8).toArray) (fun α=>SX.az aQ one ab (l1:=[]) (l2:=((List.range 32).map g)) aa (SX.aS aa) ai ai) ?_
 refine SX.QC (.agg (l.flatMap c8).toArray) (fun α=>SX.az aQ one ab (l1:=((List.range 32).map g)) (l2:=l) (SX.bz aa) (SX.nS (cast aa hin)) aw aw) ?_
 obtain⟨g2,hg2⟩:=ub (n:=32) (kg (sb s) l) rfl
 refine SX.QC (.agg (((List.range 32).map g2).flatMap c8).toArray) (fun α=>by rw [← hg2];exact⟨[⟨(α 7).h,1,(dv (sb s)++l).flatMap c8⟩],⟨Eq.trans (b:=⟨(α 7).h,1,((List.range 32).map g).flatMap c8++(l.flatMap c8++[])⟩) (by rw [hg,List.append_nil,List.flatMap_append]) aa,trivial⟩,⟨rfl,hL,_,_,rfl,by simp only [List.length_append,li];omega,rfl⟩,SX.ap rfl⟩) ?_
 exact SX.aK fun α W _ _ hS=>SX.ji (x:=.agg (((List.range 32).map g2).flatMap c8).toArray) hS aa (by rw [hg2])
end Go.Proofs.YtidekfgkpindbaaGreatDoor
