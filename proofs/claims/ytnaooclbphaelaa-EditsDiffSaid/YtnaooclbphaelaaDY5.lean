/-
  Texts behind the statement, part 5.
-/
import Derived.Test.YtnaooclbphaelaaDY4
import Derived.Test.YtnaooclbphaelaaProg
set_option linter.unusedSimpArgs false
set_option linter.unusedVariables false
namespace Go.Proofs.Ytnaooclbphaelaa
open Go Go.RowKit
namespace SX
section
variable {C:Cx}{R:Ending→World→Prop}{w0:Org}{ps:List (World→Prop)}{T T0:List TF}{ρ:List Value}{s:S}{a:Act}{W:World}{α:Nat→AV}
theorem res_ok(hI:InvA w0 ps T ρ s a W α){fn:Func}{v:V}(h:resOf C.P s fn=some v):(results fn a.tmps).run C.P W=.ok (v.den ρ α) W:=by
 have key:∀ {l:List ResultVar} {vs:List V},l.mapM (resOf1 C.P s)=some vs→(l.mapM (res1 a.tmps)).run C.P W=.ok (denL ρ α vs) W:=by
  intro l
  induction l with
  | nil=>intro vs h;simp at h;subst h;simp [denL]
  | cons r l ih =>
   intro vs h
   simp only [List.mapM_cons,Option.bind_eq_bind,Option.bind_eq_some_iff]at h
   obtain⟨v,hv,vs',hvs,h⟩:=h
   simp at h
   subst h
   have h1:=res1_ok hI hv
   simp only [List.mapM_cons,Sem.run_bind,h1,Result.andThen_ok,ih hvs,Sem.run_pure,denL]
 rw [results_eq,Array.mapM_eq_mapM_toList]
 unfold resOf at h
 split at h
 ·rename_i u hu
  obtain rfl:u=v:=by simpa using h
  have:=key hu
  simp only [map_eq_pure_bind,bind_assoc,pure_bind,Sem.run_bind,this,Result.andThen_ok,Sem.run_pure,denL]
  simp
 ·rename_i vs hne hu
  obtain rfl:V.t vs=v:=by simpa using h
  have:=key hu
  simp only [map_eq_pure_bind,bind_assoc,pure_bind,Sem.run_bind,this,Result.andThen_ok,Sem.run_pure,V.den]
  have hl:¬ (denL ρ α vs).toArray.size=1:=by
   simp [denL_len]
   intro h1
   match vs,h1,hne with
   | [v],_,hne=>exact hne v rfl
  rw [dif_neg hl]
 cases h
theorem blks_room(hp:List (Option Blk))(m:Nat)(vs:List V):blks (hp++List.replicate m none) vs=blks hp vs:=by
 unfold blks
 refine List.map_congr_left fun n _=>?_
 congr 1
 by_cases h:n<hp.length
 ·rw [List.getElem?_append_left h]
 rw [List.getElem?_append_right (by omega),List.getElem?_eq_none (l:=hp) (by omega),List.getElem?_replicate]
 split<;>rfl
theorem at_room(hp:List (Option Blk))(m n:Nat):((hp++List.replicate m none)[n]?).join=(hp[n]?).join:=by
 by_cases h:n<hp.length
 ·rw [List.getElem?_append_left h]
 rw [List.getElem?_append_right (by omega),List.getElem?_eq_none (l:=hp) (by omega),List.getElem?_replicate]
 split<;>rfl
theorem nest_room(hp:List (Option Blk))(m:Nat):∀ vs:List V,nestV (hp++List.replicate m none) vs=nestV hp vs
 | []=>rfl
 | v::l=>by
  unfold nestV
  rw [nest_room hp m l]
  congr 1
  cases v<;>try rfl
  simp only [at_room]
theorem see_room(s:S)(m:Nat)(op:Op)(vs:List V):(s.room m).see op vs=s.see op vs:=by
 unfold S.see
 split
 ·exact blks_room s.ln m vs
 show blks (s.hp++List.replicate m none) (deepV (s.hp++List.replicate m none) op vs)=blks s.hp (deepV s.hp op vs)
 have:deepV (s.hp++List.replicate m none) op vs=deepV s.hp op vs:=by
  unfold deepV;rw [nest_room]
 rw [this]
 exact blks_room s.hp m _
theorem ef_old{K:Act→World→Prop}{Q:Exit→Act→World→Prop}{o:Oper}{v:V}{wr:Option (Nat×Blk)}{vs:List V}(hvs:o.op.operands.toList.mapM s.ev=some vs)(h:planV C s.sh s.hp.length o.op vs (s.see o.op vs)=.ef v none wr)(hI:Inv w0 ps T ρ s a W)
 (hw:effWf s s.hp.length v none wr=true) (hK:∀ a' W',Inv w0 ps T ρ (s.eff s.hp.length o.dst v none wr) a' W'→K a' W'):o.wp C.P a W K Q:=by
 obtain⟨α,hI⟩:=hI
 exact ef_ok (s:=s) (nm:=s.hp.length) (vs:=vs) (List.prefix_refl _) hvs h hI (.inl rfl) hw hK
theorem ef_new{K:Act→World→Prop}{Q:Exit→Act→World→Prop}{o:Oper}{v:V}{b:Blk}{wr:Option (Nat×Blk)}{vs:List V}(hvs:o.op.operands.toList.mapM s.ev=some vs)(h:planV C s.sh s.hp.length o.op vs (s.see o.op vs)=.ef v (some b) wr)(hI:Inv w0 ps T ρ s a W)
 (hw:(effWf (s.room 1) s.hp.length v (some b) wr && freeAt (s.room 1) s.hp.length)=true) (hK:∀ a' W',Inv w0 ps T ρ ((s.room 1).eff s.hp.length o.dst v (some b) wr) a' W'→K a' W'):o.wp C.P a W K Q:=by
 obtain⟨α,hI⟩:=hI
 simp only [Bool.and_eq_true]at hw
 refine ef_ok (s:=s.room 1) (nm:=s.hp.length) (vs:=vs) (List.prefix_refl _) hvs ?_ (hI.room 1) (.inr (free_at hw.2)) hw.1 hK
 rw [see_room]
 exact h
theorem df_old(hC:C.Ok)(hps:Ctx C w0 ps){K:Act→World→Prop}{Q:Exit→Act→World→Prop}{o:Oper}{q:Opq}{args:List V}{sh:Sh}{mk:Option V}{wr:Option (Nat×Blk)}{v:Value}{vs:List V}(hvs:o.op.operands.toList.mapM s.ev=some vs)(h:planV C s.sh s.hp.length o.op vs (s.see o.op vs)=.df q args sh mk none wr)(hI:InvA w0 ps T ρ s a W α)
 (hrel:q.rel C ρ α args v) (hfit:sh.fit v=true) (hw:(wfL s.ln s.sh.length args && q.wf s.ln s.sh.length && effWf (s.ext sh) s.hp.length (resV s.sh.length sh mk) none wr)=true) (hK:∀ a' W',Inv w0 ps T (ρ++[v]) ((s.ext sh).eff s.hp.length o.dst (resV s.sh.length sh mk) none wr) a' W'→K a' W'):o.wp C.P a W K Q:=by
 simp only [Bool.and_eq_true]at hw
 obtain⟨⟨h1,h2⟩,h3⟩:=hw
 rw [hI.good.len]at h1 h2
 exact df_ok hC hps hvs h hI (rel_mono ⟨[v],rfl⟩ h1 h2 hrel) hfit (.inl rfl) h3 hK
theorem df_new(hC:C.Ok)(hps:Ctx C w0 ps){K:Act→World→Prop}{Q:Exit→Act→World→Prop}{o:Oper}{q:Opq}{args:List V}{sh:Sh}{mk:Option V}{b:Blk}{wr:Option (Nat×Blk)}{v:Value}{vs:List V}(hvs:o.op.operands.toList.mapM s.ev=some vs)(h:planV C s.sh s.hp.length o.op vs (s.see o.op vs)=.df q args sh mk (some b) wr)(hI:InvA w0 ps T ρ s a W α)
 (hrel:q.rel C ρ α args v) (hfit:sh.fit v=true) (hw:(wfL s.ln s.sh.length args && q.wf s.ln s.sh.length && effWf ((s.room 1).ext sh) s.hp.length (resV s.sh.length sh mk) (some b) wr && freeAt (s.room 1) s.hp.length)=true) (hK:∀ a' W',Inv w0 ps T (ρ++[v]) (((s.room 1).ext sh).eff s.hp.length o.dst (resV s.sh.length sh mk) (some b) wr) a' W'→K a' W'):o.wp C.P a W K Q:=by
 simp only [Bool.and_eq_true]at hw
 obtain⟨⟨⟨h1,h2⟩,h3⟩,h4⟩:=hw
 rw [hI.good.len]at h1 h2
 refine df_ok (s:=s.room 1) hC hps hvs ?_ (hI.room 1) (rel_mono ⟨[v],rfl⟩ h1 h2 hrel) hfit (.inr (free_at h4)) h3 hK
 rw [see_room]
 exact h
theorem skip_inv(hI:Inv w0 ps T ρ s a W)(d:Option Tmp):Inv w0 ps T ρ (s.put d (.k undef)) (a.put d undef) W :=
 let ⟨α,h⟩:=hI;⟨α,h.put_any d rfl rfl⟩
theorem br_inv(hI:Inv w0 ps T ρ s a W){i:Nat}{p:List Nat}{v:Value}(hi:i<s.sh.length)(hv:p.foldl comp (ρ.getD i undef)=v):Inv w0 ps T ρ (s.dec i p v) a W :=
 let ⟨α,h⟩:=hI;⟨α,h.dec (by rw [← h.good.len];exact hi) hv⟩
theorem InvA.take(hI:InvA w0 ps T ρ s a W α):∃ W',takeM a.defers W=some W'∧InvA w0 ps T ρ s { a with defers:=[] } W' α:=by
 obtain⟨W',h1,h2⟩:=take_ok (os:=loopOs s.lps T) a.defers W hI.defers.1 hI.st
 exact⟨W',h1,⟨nofun,hI.defers.2⟩,hI.good,hI.wf,hI.fm,hI.fms,h2,hI.rows,hI.lens⟩
theorem loopOs_some{c:TF}{l:Nat}{r:Loop}(h:c.lp=some (l,r))(q:Nat×LS)(lps:List (Nat×LS))(T:List TF):loopOs (q::lps) (c::T)=⟨l,.loop { r with state:=q.2.st,pending:=q.2.pe }⟩::⟨r.defers,.deferred (some [])⟩::(markOs c.ds++loopOs lps T):=by
 conv=>lhs;unfold loopOs
 rw [h]
theorem loopOs_none{c:TF}(h:c.lp=none)(lps:List (Nat×LS))(T:List TF):loopOs lps (c::T)=markOs c.ds++loopOs lps T:=by
 conv=>lhs;unfold loopOs
 rw [h]
theorem Lps_some{ok:Nat→Bool}{c:TF}{l:Nat}{r:Loop}(h:c.lp=some (l,r)){q:Nat×LS}{lps:List (Nat×LS)}{T:List TF}:Lps α ok (q::lps) (c::T)↔Marks c.ds∧(ok q.1=true∧(α q.1).b=l∧r.state=.ready∧r.pending=none∧r.tmps=c.t)∧Lps α ok lps T:=by
 conv=>lhs;unfold Lps
 rw [h]
theorem Lps_none{ok:Nat→Bool}{c:TF}(h:c.lp=none){lps:List (Nat×LS)}{T:List TF}:Lps α ok lps (c::T)↔Marks c.ds∧Lps α ok lps T:=by
 conv=>lhs;unfold Lps
 rw [h]
theorem rec_ready{r:Loop}(h1:r.state=.ready)(h2:r.pending=none):({ r with state:=.ready,pending:=none }:Loop)=r:=by cases r;simp_all
theorem rec_busy{r:Loop}(h2:r.pending=none):({ r with state:=.busy,pending:=none }:Loop)={ r with state:=.busy }:=by cases r;simp_all
theorem lpOf_some{T:List TF}(h:(lpOf T).isSome=true):∃ c T' l r,T=c::T'∧c.lp=some (l,r):=by
 cases T with
 | nil=>simp [lpOf]at h
 | cons c T' =>
  simp only [lpOf]at h
  cases hc:c.lp with
  | none=>rw [hc]at h;cases h
  | some e=>exact⟨c,T',e.1,e.2,rfl,by rw [hc]⟩
theorem roundF_ok(args:List V):∀ (l:List Tmp)(as':List V)(fr:List (Option V))(t:Array Value),Fm ρ α fr t→Fm ρ α ((l.zip as').foldl (fun f e=>f.set e.1 (some e.2)) fr) ((l.zip (denL ρ α as')).foldl (fun tmps e=>tmps.setIfInBounds e.1 e.2) t)
 | [],_,fr,t,h=>by simpa using h
 | _::_,[],fr,t,h=>by simpa [denL]using h
 | x::l,v::as',fr,t,h=>by
  simp only [denL,List.zip_cons_cons,List.foldl_cons]
  exact roundF_ok args l as' _ _ (h.set x v)
theorem roundF_wf{ln:List (Option Blk)}{m:Nat}:∀ (l:List Tmp)(as':List V)(fr:List (Option V)),WfF ln m fr→wfL ln m as'=true→WfF ln m ((l.zip as').foldl (fun f e=>f.set e.1 (some e.2)) fr)
 | [],_,fr,h,_=>by simpa using h
 | _::_,[],fr,h,_=>by simpa using h
 | x::l,v::as',fr,h,hw=>by
  simp only [wfL,Bool.and_eq_true]at hw
  simp only [List.zip_cons_cons,List.foldl_cons]
  refine roundF_wf l as' _ (fun u hu=>?_) hw.2
  rcases mem_set hu with hu|hu
  ·obtain rfl:u=v:=by simpa using hu
   exact hw.1
  exact h u hu
theorem roundT_eq(r:Loop)(as':List V):roundT r (denL ρ α as').toArray=(r.params.toList.zip (denL ρ α as')).foldl (fun tmps e=>tmps.setIfInBounds e.1 e.2) r.tmps:=by
 unfold roundT
 rw [← Array.foldl_toList,Array.toList_zip]
theorem none_rest{l:List (Option Blk)}{k:Nat}(h:(l.drop k).all Option.isNone=true){n:Nat}{b:Blk}(hn:l[n]?=some (some b)):(l.take k)[n]?=some (some b):=by
 rcases Nat.lt_or_ge n k with hk|hk
 ·rw [List.getElem?_take,if_pos hk];exact hn
 exfalso
 have h1:(l.drop k)[n-k]?=some (some b):=by rw [List.getElem?_drop,show k+(n-k)=n by omega];exact hn
 have:=List.all_eq_true.1 h _ (List.mem_of_getElem? h1)
 cases this
theorem none_split{l:List (Option Blk)}{k:Nat}(h:(l.drop k).all Option.isNone=true):l=l.take k++List.replicate (l.drop k).length none:=by
 have:l.drop k=List.replicate (l.drop k).length none:=List.eq_replicate_iff.2 ⟨rfl,fun x hx=>by
  have:=List.all_eq_true.1 h x hx
  cases x
  ·rfl
  cases this⟩
 rw [← this,List.take_append_drop]
theorem InvA.trim(hI:InvA w0 ps T ρ s a W α)(b:Bool)(base:Nat):InvA w0 ps T ρ (s.trim b base) a W α:=by
 unfold S.trim
 split
 ·exact hI
 generalize max base (max (lastSome 0 0 s.hp) (lastSome 0 0 s.ln))=k
 dsimp only
 split
 ·rename_i hc
  simp only [Bool.and_eq_true]at hc
  obtain⟨h1,h2⟩:=hc
  have hlv:∀ n,lv s.ln n=true→lv (s.ln.take k) n=true:=fun n hn=>by
   obtain⟨b,hb⟩:=lv_iff.1 hn
   exact lv_iff.2 ⟨b,none_rest h2 hb⟩
  have hback:∀ {l:List (Option Blk)} {n:Nat} {b:Blk},(l.take k)[n]?=some (some b)→l[n]?=some (some b):=fun {l n b} h=>by
   rw [List.getElem?_take]at h
   split at h
   ·exact h
   cases h
  refine⟨⟨hI.defers.1,hI.defers.2.to (fun _ _=>rfl) hlv⟩,⟨hI.good.len,hI.good.fit,hI.good.kn⟩,⟨hI.wf.fr.mono hlv (Nat.le_refl _),fun f hf=>(hI.wf.stk f hf).mono hlv (Nat.le_refl _),fun c hc=>?_,fun c hc=>?_⟩,hI.fm,hI.fms,?_,fun n b hb=>?_,fun n b hb=>hI.lens n b (hback hb)⟩
  ·exact wfL_mono hlv (Nat.le_refl _) c.c (hI.wf.hp c (List.mem_of_mem_take hc))
  ·exact wfL_mono hlv (Nat.le_refl _) c.c (hI.wf.ln c (List.mem_of_mem_take hc))
  ·have e1:=none_split h1
   have hst:=hI.st
   have e2:chs ρ α 0 s.hp=chs ρ α 0 (s.hp.take k):=by
    conv=>lhs;rw [e1,chs_append]
   rw [e2]at hst
   exact st_ps hst (app_sub (exs_sub fun n b hb=>.inr ⟨b,hback hb,rfl⟩))
  obtain⟨h3,h4⟩:=hI.rows n b (hback hb)
  exact⟨hlv n h3,h4⟩
 exact hI
theorem wpK_panic{P:Program}{R:Ending→World→Prop}:∀ {k:List It}{T:List TF}{J:List (Act→World→Prop)},noJmp k=true→∀ c a W,¬ wpK P R k T J (.panic c) a W
 | [],_,_,_,_,_,_=>fun h=>h
 | .top _::_,_,_,_,_,_,_=>fun h=>h
 | .code _::k,_,_,h,c,a,W=>fun hh=>wpK_panic (k:=k) h c a W hh
 | .inBlock _::k,_,_,h,c,a,W=>fun hh=>wpK_panic (k:=k) h c a W hh
 | .rounds _ _::k,_,_,h,c,a,W=>fun hh=>wpK_panic (k:=k) h c a W hh
 | .ops _ _::k,_,_,h,c,a,W=>fun hh=>wpK_panic (k:=k) h c a W hh
 | .back _ _ _ _ _::_,[],_,_,_,_,_=>fun h=>h
 | .back _ _ _ _ _::_,_::_,_,_,_,_,_=>fun h=>h
 | .again _ _ _ _::k,_,[],_,_,_,_=>fun h=>h
 | .again _ _ _ _::k,_,_::_,h,c,a,W=>fun hh=>wpK_panic (k:=k) h c a W hh
 | .beginR::_,_,_,_,_,_,_=>fun h=>h
 | .endR _ _ _ _::_,[],_,_,_,_,_=>fun h=>h
 | .endR _ _ _ _::_,_::_,_,_,_,_,_=>fun⟨_,_,_,h⟩=>h.2
 | .endl _ _ _ _ _::_,[],_,_,_,_,_=>fun h=>h
 | .endl _ _ _ _ _::_,_::_,_,_,_,_,_=>fun h=>h
 | .jump _::_,_,_,h,_,_,_=>nomatch h
theorem cutT_vc{R:Ending→World→Prop}{T0:List TF}{L:List (Cx→List Value→Prop)}{i:Nat}{b:Bool}{t:Tree}(h:VC C w0 ps T0 R L ρ (cutT C s i b t)):VC C w0 ps T0 R L ρ t:=by
 unfold cutT at h
 split at h
 ·simp [VC]at h
 exact h
theorem lstV_eq{s:S}{k:Nat}{op:Op}{vs:List V}{n0 sz:Nat}{c:List V}(h:lstV s k op vs=some (n0,sz,c)):k=12∧∃ b,s.hp[n0]?=some (some b)∧b.k=.row sz∧b.c=c:=by
 unfold lstV at h
 split at h
 ·rename_i hk
  split at h
  ·split at h
   ·rename_i b hb
    split at h
    ·rename_i sz' hk'
     cases h
     exact⟨hk,b,join_some hb,hk',rfl⟩
    cases h
   cases h
  cases h
 cases h
theorem lstA_eq{s:S}{an:Ann}{k:Nat}{n0 sz:Nat}{c:List V}(h:lstA s an k=some (n0,sz,c)):k=12∧∃ b,s.hp[n0]?=some (some b)∧b.k=.row sz∧b.c=c:=by
 unfold lstA at h
 split at h
 ·rename_i hk
  have h:=List.mem_of_getElem? h
  obtain⟨e,_,he⟩:=List.mem_filterMap.1 h
  split at he
  ·split at he
   ·split at he
    ·rename_i b hb
     split at he
     ·rename_i sz' hk'
      cases he
      exact⟨hk,b,join_some hb,hk',rfl⟩
     cases he
    cases he
   cases he
  cases he
 cases h
theorem rel_l{C:Cx}{ρ:List Value}{α:Nat→AV}{sz:Nat}{args:List V}{v:Value}(h:(Opq.lastq sz).rel C ρ α args v):False:=by
 unfold Opq.rel at h
 split at h<;>first|exact h|(rename_i hq;cases hq)|skip
def goT(C:Cx)(G:Cfg)(n lv:Nat)(s:S)(all:Array Oper)(o:Oper)(rest:List Oper)(k:List It):Tree :=
 match o.op.operands.toList.mapM s.ev with
  | none=>.bad 16 [o.op]
  | some vs=>match cvV C.P G.keep s o.op vs with
   | some (n0,b,_)=>if effWf ((s.lay n0 tomb).room 1) s.hp.length (.row s.hp.length) (some ⟨[.a b.c],0,.ext 1⟩) none && freeAt ((s.lay n0 tomb).room 1) s.hp.length then run C G n lv (((s.lay n0 tomb).room 1).eff s.hp.length o.dst (.row s.hp.length) (some ⟨[.a b.c],0,.ext 1⟩) none) (.ops all rest::k)else .bad 82 [o.op]
   | none=>match nCall C (s.see o.op vs) o.op vs with
   | some (g,rw,as',sh)=>if effWf (s.ext sh) s.hp.length (resV s.sh.length sh none) none none then .df (.callq g rw) as' sh (run C G n lv ((s.ext sh).eff s.hp.length o.dst (resV s.sh.length sh none) none none) (.ops all rest::k))else .bad 80 [o.op]
   | none=>match planV C s.sh s.hp.length o.op vs (s.see o.op vs)with
   | .ef v none wr=>if effWf s s.hp.length v none wr then run C G n lv (s.eff s.hp.length o.dst v none wr) (.ops all rest::k)else .bad 17 [o.op]
   | .ef v (some b) wr=>if effWf (s.room 1) s.hp.length v (some b) wr && freeAt (s.room 1) s.hp.length then run C G n lv ((s.room 1).eff s.hp.length o.dst v (some b) wr) (.ops all rest::k)else .bad 18 [o.op]
   | .df q args sh mk none wr=>if wfL s.ln s.sh.length args && q.wf s.ln s.sh.length && effWf (s.ext sh) s.hp.length (resV s.sh.length sh mk) none wr then .df q args sh (run C G n lv ((s.ext sh).eff s.hp.length o.dst (resV s.sh.length sh mk) none wr) (.ops all rest::k))else .bad 20 [o.op]
   | .df q args sh mk (some b) wr=>if wfL s.ln s.sh.length args && q.wf s.ln s.sh.length && effWf ((s.room 1).ext sh) s.hp.length (resV s.sh.length sh mk) (some b) wr && freeAt (s.room 1) s.hp.length then .df q args sh (run C G n lv (((s.room 1).ext sh).eff s.hp.length o.dst (resV s.sh.length sh mk) (some b) wr) (.ops all rest::k))else .bad 19 [o.op]
   | .br i p=>if i<s.sh.length then .br i p (run C G n lv (s.dec i p (.bool true)) (.ops all (o::rest)::k)) (run C G n lv (s.dec i p (.bool false)) (.ops all (o::rest)::k))else .bad 21 [o.op]
   | .sp i p m=>if i<s.sh.length then .sp i p ((List.range m).map fun(j:Nat)=>run C G n lv (s.dec i p (.int .i64 (j:Int))) (.ops all (o::rest)::k))else .bad 22 [o.op]
   | .no=>match frzV C s G.keep o.op vs with
    | some n0=>run C G n lv (s.freeze n0) (.ops all (o::rest)::k)
    | none=>match lstV s G.keep o.op vs with
    | some (n0,sz,c)=>.df (.lastq sz) [.cat c] .one (run C G n lv (s.last n0) (.ops all (o::rest)::k))
    | none=>match o.op,vs with
    | .call c,.f (.func g) fs cap::args=>match c.callee,C.P.funcs[g]?,enters C.P g && G.inl g with
     | .value _,some fn,true=>match fn.body with
      | some body=>if(fs++(args++cap)).length≤fn.ntmps && wfL s.ln s.sh.length (fs++(args++cap))then
       run C G n lv { s with fr:=(fs++(args++cap)).map some++List.replicate (fn.ntmps-(fs++(args++cap)).length) (some (.k undef)),stk:=s.fr::s.stk,cur:=g } (.code body::.back fn s.cur o.dst all rest::k)else .bad 23 [o.op]
      | none=>.bad 24 [o.op]
     | _,_,_=>.bad 25 [o.op]
    | .call c,.y m::args=>match c.callee,s.lps,s.stk,endlOf k with
     | .value _,(m',.ready)::_,fr::_,some (cur,ps,assign,body)=>if m=m'∧args.length=ps.size∧wfL s.ln s.sh.length args=true then
      run C G n lv { s with fr:=roundF fr ps args,stk:=s.fr::s.stk,cur:=cur } (.code assign::.beginR::.code body::.endR s.cur o.dst all rest::k)else .bad 61 [o.op]
     | _,_,_,_=>.bad 62 [o.op]
    | _,_=>.bad 26 [o.op]
theorem frzV_eq{k:Nat}{op:Op}{vs:List V}{n0:Nat}(h:frzV C s k op vs=some n0):k=12∧∃ b,s.hp[n0]?=some (some b)∧b.k=.cells:=by
 unfold frzV at h
 split at h
 ·rename_i hk
  refine⟨hk,?_⟩
  split at h
  ·split at h
   ·have hm:=List.mem_of_getElem? h
    obtain⟨j,_,hj⟩:=List.mem_filterMap.1 hm
    split at hj
    ·split at hj
     ·rename_i b hb
      split at hj
      ·rename_i hbk
       cases hj
       exact⟨b,join_some hb,hbk⟩
      cases hj
     cases hj
    cases hj
   cases h
  cases h
 cases h
theorem InvA.freeze(hI:InvA w0 ps T ρ s a W α)(hms:w0.ms=[]){n0:Nat}{b:Blk}(hn:s.hp[n0]?=some (some b))(hk:b.k=.cells):InvA w0 ps T ρ (s.freeze n0) a W α:=by
 have hfz:s.freeze n0=s.lay n0 ⟨b.c,b.t,.froz⟩:=by unfold S.freeze;rw [hn];rfl
 rw [hfz]
 obtain⟨l1,l2,h1,h2⟩:=chs_split (ρ:=ρ) (α:=α) (k:=0) hn
 have hch:(some b).bind (fun b=>b.ch ρ α (0+n0))=some ⟨(α n0).b,(denL ρ α b.c).toArray,b.t⟩:=by simp [Blk.ch,hk]
 have hst:=hI.st
 rw [h1,hch]at hst
 have hst:St w0 (l1++((⟨(α n0).b,(denL ρ α b.c).toArray,b.t⟩:Ch)::l2)) (osA a s T) (exs w0 ρ α 0 s.hp++ps) W:=hst
 have hmem:(⟨(α n0).b,(denL ρ α b.c).toArray,b.t⟩:Ch)∈l1++((⟨(α n0).b,(denL ρ α b.c).toArray,b.t⟩:Ch)::l2):=by simp
 have hat:=hst.at_ hmem
 have hge:w0.w.heap.size≤(α n0).b:=(hst.ge_ hmem).resolve_right (by rw [hms];simp)
 have hlt:=hst.lt_ hmem
 have hnm:(α n0).b∉muts (l1++l2) (osA a s T):=by
  have hnd:=hst.nodup
  unfold muts at hnd ⊢
  rw [List.map_append,List.map_cons]at hnd
  rw [List.map_append]
  have hp:(l1.map (·.id)++(α n0).b::l2.map (·.id)++(osA a s T).flatMap Ow.blk).Perm ((α n0).b::(l1.map (·.id)++l2.map (·.id)++(osA a s T).flatMap Ow.blk)):=by
   simp only [List.append_assoc,List.cons_append]
   exact List.perm_middle
  exact(List.nodup_cons.1 (hp.nodup_iff.1 hnd)).1
 have hst2:St w0 (l1++l2) (osA a s T) (exs w0 ρ α 0 s.hp++ps) W:=hst.weak (sub_mid _ _ _) (.refl _) fun _ h=>h
 have hst3:=hst2.keep (p:=fun W=>W.heap[(α n0).b]?=some (.cells (denL ρ α b.c).toArray b.t (0,0))∧w0.w.heap.size≤(α n0).b) fun W' hW=>⟨(hW.block _ hlt hnm).trans hat,hge⟩
 refine⟨hI.defers,⟨hI.good.len,hI.good.fit,hI.good.kn⟩,⟨hI.wf.fr,hI.wf.stk,fun d hd=>?_,hI.wf.ln⟩,hI.fm,hI.fms,?_,fun m c hc=>?_,hI.lens⟩
 ·rcases mem_set hd with h|h
  ·obtain rfl:d=⟨b.c,b.t,.froz⟩:=by simpa using h
   exact hI.wf.hp b (List.mem_of_getElem? hn)
  exact hI.wf.hp d h
 ·show St w0 (chs ρ α 0 (s.hp.set n0 (some ⟨b.c,b.t,.froz⟩))) (osA a s T) (exs w0 ρ α 0 (s.hp.set n0 (some ⟨b.c,b.t,.froz⟩))++ps) W
  rw [h2]
  have e:(some (⟨b.c,b.t,.froz⟩:Blk)).bind (fun b=>b.ch ρ α (0+n0))=none:=by simp [Blk.ch]
  rw [e]
  refine st_ps hst3 fun p hp=>?_
  rcases List.mem_append.1 hp with hp|hp
  ·obtain⟨m,c,hc,he⟩:=exs_mem.1 hp
   rw [Nat.zero_add]at he
   rcases set_cases hc with ⟨rfl,rfl⟩|⟨_,h⟩
   ·simp only [Blk.ex,Option.some.injEq]at he
    subst he
    exact List.mem_cons_self ..
   exact List.mem_cons_of_mem _ (List.mem_append.2 (.inl (exs_mem.2 ⟨m,c,h,by rw [Nat.zero_add];exact he⟩)))
  exact List.mem_cons_of_mem _ (List.mem_append.2 (.inr hp))
 rcases set_cases hc with ⟨rfl,rfl⟩|⟨_,h⟩
 ·exact⟨hI.live _ _ hn,by simp [Blk.rowOk]⟩
 exact hI.rows m c h
theorem frzR_eq{k:Nat}{ops:Array Oper}{n0:Nat}(h:frzR k s ops=some n0):k=12∧∃ b sz,s.hp[n0]?=some (some b)∧b.k=.row sz:=by
 unfold frzR at h
 split at h
 ·rename_i hk
  refine⟨hk,?_⟩
  split at h
  ·have hm:=List.mem_of_getElem? h
   obtain⟨j,_,hj⟩:=List.mem_filterMap.1 hm
   split at hj
   ·split at hj
    ·split at hj
     ·rename_i b hb
      split at hj
      ·rename_i sz hbk
       cases hj
       exact⟨b,sz,join_some hb,hbk⟩
      cases hj
     cases hj
    cases hj
   cases hj
  cases h
 cases h
theorem InvA.freezeR(hI:InvA w0 ps T ρ s a W α)(hms:w0.ms=[]){n0 sz:Nat}{b:Blk}(hn:s.hp[n0]?=some (some b))(hk:b.k=.row sz):InvA w0 ps T ρ (s.freezeR n0) a W α:=by
 have hfz:s.freezeR n0=s.lay n0 ⟨b.c,b.t,.ext sz⟩:=by unfold S.freezeR;rw [hn];simp only [Option.join,Option.bind_some,id,hk]
 rw [hfz]
 obtain⟨c,e,kk⟩:=b
 cases hk
 obtain⟨l1,l2,h1,h2⟩:=chs_split (ρ:=ρ) (α:=α) (k:=0) hn
 have key:∃ A len cap,(α n0).h=.slice A len cap∧((denL ρ α c).flatMap cellsV).length=len*sz∧len≤cap∧(0<len→A.isSome=true)∧St w0 (l1++l2) (osA a s T) (exFact w0 ⟨(α n0).h,sz,(denL ρ α c).flatMap cellsV⟩::(exs w0 ρ α 0 s.hp++ps)) W:=by
  have hst:=hI.st
  rw [h1]at hst
  obtain⟨h0,h|⟨len,cap,g2,g3,g4,g5,g6,hm⟩⟩:=row_info hI hn
  ·have hch:(some (⟨c,e,.row sz⟩:Blk)).bind (fun b=>b.ch ρ α (0+n0))=none:=by simp [Blk.ch,h.2]
   rw [hch]at hst
   refine⟨none,0,0,h.2,by rw [h.1];simp,Nat.le_refl _,fun h=>absurd h (Nat.lt_irrefl _),?_⟩
   rw [h.1,h.2]
   exact St.keep hst fun W' _=>⟨⟨Rd.none_,Nat.le_refl _⟩,.inl fun ad n c e _=>by cases e⟩
  have hch:(some (⟨c,e,.row sz⟩:Blk)).bind (fun b=>b.ch ρ α (0+n0))=some ⟨(α n0).b,((denL ρ α c).flatMap cellsV++(α n0).tl).toArray,e⟩:=by
   simp only [Option.bind_some,Blk.ch,Nat.zero_add,g2];rfl
  rw [hch]at hst
  have hst:St w0 (l1++((⟨(α n0).b,((denL ρ α c).flatMap cellsV++(α n0).tl).toArray,e⟩:Ch)::l2)) (osA a s T) (exs w0 ρ α 0 s.hp++ps) W:=hst
  have hmem:(⟨(α n0).b,((denL ρ α c).flatMap cellsV++(α n0).tl).toArray,e⟩:Ch)∈l1++((⟨(α n0).b,((denL ρ α c).flatMap cellsV++(α n0).tl).toArray,e⟩:Ch)::l2):=by simp
  have hat:=hst.at_ hmem
  have hge:w0.w.heap.size≤(α n0).b:=(hst.ge_ hmem).resolve_right (by rw [hms];simp)
  have hlt:=hst.lt_ hmem
  have hnm:(α n0).b∉muts (l1++l2) (osA a s T):=by
   have hnd:=hst.nodup
   unfold muts at hnd ⊢
   rw [List.map_append,List.map_cons]at hnd
   rw [List.map_append]
   have hp:(l1.map (·.id)++(α n0).b::l2.map (·.id)++(osA a s T).flatMap Ow.blk).Perm ((α n0).b::(l1.map (·.id)++l2.map (·.id)++(osA a s T).flatMap Ow.blk)):=by
    simp only [List.append_assoc,List.cons_append]
    exact List.perm_middle
   exact(List.nodup_cons.1 (hp.nodup_iff.1 hnd)).1
  have hst2:St w0 (l1++l2) (osA a s T) (exs w0 ρ α 0 s.hp++ps) W:=hst.weak (sub_mid _ _ _) (.refl _) fun _ h=>h
  refine⟨_,len,cap,g2,g3,g5,fun _=>rfl,?_⟩
  rw [g2]
  refine hst2.keep fun W' hW=>⟨⟨?_,g5⟩,.inl fun ad n c e _=>?_⟩
  ·refine Rd.of_blk ((hW.block _ hlt hnm).trans hat) g3 fun j u hu=>?_
   rw [Nat.zero_add,List.getElem?_toArray,List.getElem?_append_left (List.getElem?_eq_some_iff.1 hu).1]
   exact hu
  cases e
  exact hge
 obtain⟨A,len,cap,k1,k2,k3,k4,hst3⟩:=key
 have k0:0<sz:=(row_info hI hn).1
 have kl:=hI.live _ _ hn
 refine⟨hI.defers,⟨hI.good.len,hI.good.fit,hI.good.kn⟩,⟨hI.wf.fr,hI.wf.stk,fun d hd=>?_,hI.wf.ln⟩,hI.fm,hI.fms,?_,fun m c hc=>?_,hI.lens⟩
 ·rcases mem_set hd with h|h
  ·obtain rfl:d=⟨c,e,.ext sz⟩:=by simpa using h
   exact hI.wf.hp ⟨c,e,.row sz⟩ (List.mem_of_getElem? hn)
  exact hI.wf.hp d h
 ·show St w0 (chs ρ α 0 (s.hp.set n0 (some ⟨c,e,.ext sz⟩))) (osA a s T) (exs w0 ρ α 0 (s.hp.set n0 (some ⟨c,e,.ext sz⟩))++ps) W
  rw [h2]
  have e2:(some (⟨c,e,.ext sz⟩:Blk)).bind (fun b=>b.ch ρ α (0+n0))=none:=by simp [Blk.ch]
  rw [e2]
  refine st_ps hst3 fun p hp=>?_
  rcases List.mem_append.1 hp with hp|hp
  ·obtain⟨m,c',hc,he⟩:=exs_mem.1 hp
   rw [Nat.zero_add]at he
   rcases set_cases hc with ⟨rfl,rfl⟩|⟨_,h⟩
   ·simp only [Blk.ex,Option.some.injEq]at he
    subst he
    exact List.mem_cons_self ..
   exact List.mem_cons_of_mem _ (List.mem_append.2 (.inl (exs_mem.2 ⟨m,c',h,by rw [Nat.zero_add];exact he⟩)))
  exact List.mem_cons_of_mem _ (List.mem_append.2 (.inr hp))
 rcases set_cases hc with ⟨rfl,rfl⟩|⟨_,h⟩
 ·exact⟨kl,k0,A,len,cap,k1,k2,k3,k4⟩
 exact hI.rows m c h
theorem InvA.refr(hI:InvA w0 ps T ρ s a W α){fr':List (Option V)}(hl:fr'.length=s.fr.length)(h:∀ (d:Nat)(v':V),fr'[d]?=some (some v')→v'.wf s.ln ρ.length=true∧∃ v,s.fr[d]?=some (some v)∧v'.den ρ α=v.den ρ α):InvA w0 ps T ρ { s with fr:=fr' } a W α:=by
 refine⟨hI.defers,⟨hI.good.len,hI.good.fit,hI.good.kn⟩,⟨fun v hv=>?_,hI.wf.stk,hI.wf.hp,hI.wf.ln⟩,⟨by rw [hI.fm.1,hl],fun d v hd=>?_⟩,hI.fms,hI.st,hI.rows,hI.lens⟩
 ·obtain⟨d,hd⟩:=List.mem_iff_getElem?.1 hv
  exact(h d v hd).1
 obtain⟨_,u,hu,e⟩:=h d v hd
 rw [hI.fm.2 d u hu,e]
theorem InvA.last(hI:InvA w0 ps T ρ s a W α)(hps:Ctx C w0 ps)(hms:w0.ms=[]){n0 sz:Nat}{b:Blk}(hn:s.hp[n0]?=some (some b))(hk:b.k=.row sz) :
 ∃ A len cap,(α n0).h=.slice A len cap∧(b.xs ρ α).length=len*sz∧len≤cap∧(0<len→A.isSome=true)∧Inv w0 (Kf (C.plus ([⟨(α n0).h,sz,b.xs ρ α⟩]++C.N))::NF (C.plus ([⟨(α n0).h,sz,b.xs ρ α⟩]++C.N))::ps) T (ρ++[(α n0).h]) (s.last n0) a W:=by
 obtain⟨c,e,kk⟩:=b
 cases hk
 have hfz:s.freezeR n0=s.lay n0 ⟨c,e,.ext sz⟩:=by unfold S.freezeR;rw [hn];simp only [Option.join,Option.bind_some,id]
 have hri:=row_info hI hn
 have hh:∃ A len cap,(α n0).h=.slice A len cap∧((denL ρ α c).flatMap cellsV).length=len*sz∧len≤cap∧(0<len→A.isSome=true):=by
  rcases hri.2 with h|⟨len,cap,h,h2,_,h4,_⟩
  ·exact⟨_,_,_,h.2,by rw [h.1];simp,Nat.le_refl _,fun h=>absurd h (Nat.lt_irrefl _)⟩
  exact⟨_,_,_,h,h2,h4,fun _=>rfl⟩
 have hF:Frs w0 (α n0).h:=by
  rcases hri.2 with h|⟨len,cap,h,_,_,_,_,hm⟩
  ·rw [h.2];intro ad n c e _;cases e
  intro ad n c' e2 _
  rw [h]at e2
  cases e2
  exact(hI.st.ge_ hm).resolve_right (by rw [hms];simp)
 obtain⟨A,len,cap,h1,h2,h3,h4⟩:=hh
 refine⟨A,len,cap,h1,h2,h3,h4,?_⟩
 have hA1:=hI.freezeR hms hn rfl
 have hone:Sh.one.fit (α n0).h=true:=by rw [h1];rfl
 have hA2:=hA1.ext (h:=.one) (v:=(α n0).h) hone
 have hgl:s.sh.length=ρ.length:=hI.good.len
 have hA3:InvA w0 ps T (ρ++[(α n0).h]) (s.last n0) a W α:=by
  refine InvA.refr (s:=(s.freezeR n0).ext .one) hA2 (by simp [S.ext,hfz,S.lay]) fun d v' hd=>?_
  have hd2:((s.freezeR n0).fr.map (lastO n0 s.sh.length))[d]?=some (some v'):=hd
  clear hd
  rw [List.getElem?_map,Option.map_eq_some_iff]at hd2
  obtain⟨o,ho,hd⟩:=hd2
  unfold lastO at hd
  have hold:∀ v,o=some v→v'=v→v'.wf ((s.freezeR n0).ext .one).ln (ρ++[(α n0).h]).length=true∧∃ v,((s.freezeR n0).ext .one).fr[d]?=some (some v)∧v'.den (ρ++[(α n0).h]) α=v.den (ρ++[(α n0).h]) α:=by
   rintro v rfl rfl
   exact⟨hA2.wf.fr _ (List.mem_of_getElem? ho),v',ho,rfl⟩
  split at hd
  ·rename_i k
   split at hd
   ·rename_i hkn
    subst hkn
    obtain rfl:V.x s.sh.length []=v':=by simpa using hd
    refine⟨by simp only [V.wf,decide_eq_true_eq,List.length_append,List.length_cons,List.length_nil];omega,.row k,ho,?_⟩
    simp only [V.den,List.foldl_nil,hgl]
    simp [List.getD_eq_getElem?_getD]
   exact hold _ rfl (by simpa using hd.symm)
  exact hold v' hd rfl
 have hps1:∀ W',Same (muts (chs (ρ++[(α n0).h]) α 0 (s.last n0).hp) (osA a (s.last n0) T)) W W'→exFact w0 ⟨(α n0).h,sz,(⟨c,e,.ext sz⟩:Blk).xs (ρ++[(α n0).h]) α⟩ W':=fun W' hW=>by
  refine hA3.st.pers _ (List.mem_append.2 (.inl (exs_mem.2 ⟨n0,⟨c,e,.ext sz⟩,?_,?_⟩))) W' hW
  ·show(s.freezeR n0).hp[n0]?=_
   rw [hfz]
   simp only [S.lay]
   rw [List.getElem?_set_self (List.getElem?_eq_some_iff.1 hn).1]
  simp only [Blk.ex,Nat.zero_add]
 have hxs:(⟨c,e,.ext sz⟩:Blk).xs (ρ++[(α n0).h]) α=(⟨c,e,.row sz⟩:Blk).xs ρ α:=by
  have hwf:=hI.wf.hp ⟨c,e,.row sz⟩ (List.mem_of_getElem? hn)
  show(denL (ρ++[(α n0).h]) α c).flatMap cellsV=(denL ρ α c).flatMap cellsV
  rw [denL_eq (hp:=s.ln) (fun _ _=>rfl) ⟨[_],rfl⟩ c hwf]
 rw [hxs]at hps1
 exact⟨α,hA3.plus hps fun W' hW y hy=>by
  rcases List.mem_append.1 hy with hy|hy
  ·obtain rfl:y=⟨(α n0).h,sz,(⟨c,e,.row sz⟩:Blk).xs ρ α⟩:=by simpa using hy
   exact⟨(hps1 W' hW).1,fun ad n c' e2 hn2=>Nat.le_trans hps.2.2.2.1 (hF ad n c' e2 hn2)⟩
  exact hps.lasts hA3 W' hW y hy⟩
theorem cvV_eq{P:Program}{g:Nat}{op:Op}{vs:List V}{n0 len:Nat}{b:Blk}(h:cvV P g s op vs=some (n0,b,len)):g=12∧∃ t x e,op=.convert t t x∧vs=[.sl n0 0 len len]∧P.underlying t=some (.slice e)∧P.underlying e=some (.int .u8)∧s.hp[n0]?=some (some b)∧b.k=.cells∧b.t=e∧b.c.length=len∧0<len:=by
 unfold cvV at h
 split at h
 ·rename_i t t' x n len' cap
  split at h
  ·rename_i e b' hsl hb
   split at h
   ·rename_i hu
    split at h
    ·rename_i hc
     obtain⟨hg,rfl,h1,h2,h3,rfl,h4⟩:=hc
     cases h
     exact⟨hg,t,x,e,rfl,rfl,slOf_eq hsl,hu,join_some hb,h1,h2,h3,h4⟩
    cases h
   cases h
  cases h
 cases h
theorem _root_.Go.Proofs.Ytnaooclbphaelaa.St.mark{w0:Org}{W W':World}{l1 l2:List Ch}{e:Ch}{os:List Ow}{ps:List (World→Prop)}(h:St w0 (l1++e::l2) os ps W)(hos:W'.os=W.os)(htp:W'.tape=W.tape)(hout:W'.output=W.output)(hsm:Same [e.id] W W'):St w0 (l1++l2) os ps W':=by
 have hmem:e∈l1++e::l2:=by simp
 have hp:(muts (l1++e::l2) os).Perm (e.id::muts (l1++l2) os):=by
  unfold muts
  simp only [List.map_append,List.map_cons,List.append_assoc,List.cons_append]
  exact List.perm_middle
 have hnd:=List.nodup_cons.1 (hp.nodup_iff.1 h.nodup)
 have hkm:e.id∈muts (l1++e::l2) os:=hp.mem_iff.2 (List.mem_cons_self ..)
 have hkl:=h.mut_lt hkm
 have hsub:∀ x∈l1++l2,x∈l1++e::l2:=fun x hx=>by simp only [List.mem_append,List.mem_cons]at hx ⊢;rcases hx with h|h;exact .inl h;exact .inr (.inr h)
 have hoth:∀ b,b<W.heap.size→b≠e.id→W'.heap[b]?=W.heap[b]?:=fun b hb hn=>hsm.block b hb (by simpa using hn)
 refine⟨⟨hos.trans h.old.os,htp.trans h.old.tape,hout.trans h.old.output,Nat.le_trans h.old.size hsm.size,fun b hb hn=>?_⟩,fun x hx=>?_,fun x hx=>?_,hnd.2,fun p hp2 W2 h2=>h.pers p hp2 W2 ?_⟩
 ·rw [hoth b (Nat.lt_of_lt_of_le hb h.old.size) (by
   rintro rfl;rcases hkl.1 with h1|h1;· omega
   exact hn h1)]
  exact h.old.block b hb hn
 ·have h3:=h.blk x (hsub x hx)
  refine⟨h3.1,(hoth _ (Array.getElem?_eq_some_iff.1 h3.2).1 fun h4=>hnd.1 ?_).trans h3.2⟩
  rw [← h4]
  exact List.mem_append.2 (.inl (List.mem_map.2 ⟨x,hx,rfl⟩))
 ·have h3:=h.own x hx
  refine⟨h3.1,(hoth _ (Array.getElem?_eq_some_iff.1 h3.2).1 fun h4=>hnd.1 ?_).trans h3.2⟩
  rw [← h4]
  exact List.mem_append.2 (.inr (List.mem_flatMap.2 ⟨x,hx,by simp [Ow.blk]⟩))
 refine Same.trans (ids:=muts (l1++e::l2) os) ⟨hsm.size,fun b hb hn=>hoth b hb fun e'=>hn (e'▸hkm)⟩ ⟨h2.size,fun b hb hn=>h2.block b hb fun h4=>hn (hp.mem_iff.2 (List.mem_cons_of_mem _ h4))⟩
theorem cv_ok{K:Act→World→Prop}{Q:Exit→Act→World→Prop}{o:Oper}{vs:List V}{n0 len:Nat}{b:Blk}{g:Nat}(hms:w0.ms=[])(hvs:o.op.operands.toList.mapM s.ev=some vs)(h:cvV C.P g s o.op vs=some (n0,b,len))(hI:InvA w0 ps T ρ s a W α)
 (hw:effWf ((s.lay n0 tomb).room 1) s.hp.length (.row s.hp.length) (some ⟨[.a b.c],0,.ext 1⟩) none=true) (hf:freeAt ((s.lay n0 tomb).room 1) s.hp.length=true) (hK:∀ a' W',Inv w0 ps T ρ (((s.lay n0 tomb).room 1).eff s.hp.length o.dst (.row s.hp.length) (some ⟨[.a b.c],0,.ext 1⟩) none) a' W'→K a' W'):o.wp C.P a W K Q:=by
 obtain⟨_,t,x,e,hop,rfl,ht,he,hn,hk,rfl,hlen,hpos⟩:=cvV_eq h
 have hx:=mapM_den hI.good hI.fm hvs
 rw [hop]at hx
 simp [Op.operands,denL,V.den]at hx
 obtain⟨l1,l2,h1,h2⟩:=chs_split (ρ:=ρ) (α:=α) (k:=0) hn
 have hch:(some b).bind (fun b=>b.ch ρ α (0+n0))=some ⟨(α n0).b,(denL ρ α b.c).toArray,b.t⟩:=by simp [Blk.ch,hk]
 have hst:=hI.st
 rw [h1,hch]at hst
 have hst:St w0 (l1++((⟨(α n0).b,(denL ρ α b.c).toArray,b.t⟩:Ch)::l2)) (osA a s T) (exs w0 ρ α 0 s.hp++ps) W:=hst
 have hmem:(⟨(α n0).b,(denL ρ α b.c).toArray,b.t⟩:Ch)∈l1++((⟨(α n0).b,(denL ρ α b.c).toArray,b.t⟩:Ch)::l2):=by simp
 have hat:=hst.at_ hmem
 have hge:w0.w.heap.size≤(α n0).b:=(hst.ge_ hmem).resolve_right (by rw [hms];simp)
 have hlt:=hst.lt_ hmem
 have hsz:(denL ρ α b.c).toArray.size=len:=by simp [denL_len,hlen]
 have hrun:(convert t t (.slice (some ⟨(α n0).b,0,none⟩) len len)).run C.P W=.ok (.slice (some ⟨(α n0).b,0,none⟩) len len) (W.freeze ⟨(α n0).b,len,none⟩ 1):=by
  have hshp:W.shape? (α n0).b=some (b.t,len):=by unfold World.shape?;rw [hat];simp [denL_len,hlen]
  simp [convert,run_underlying ht,run_underlying he,markStringish,hshp]
 have hW':(W.freeze ⟨(α n0).b,len,none⟩ 1).heap=W.heap.modify (α n0).b fun
  | .cells c elem (lo,hi)=>.cells c elem (if lo == hi then(len,len+1)else(min lo len,max hi (len+1)))
  | o=>o:=rfl
 have hsm:Same [(α n0).b] W (W.freeze ⟨(α n0).b,len,none⟩ 1):=by
  refine⟨by rw [hW',Array.size_modify];exact Nat.le_refl _,fun c hc hn=>?_⟩
  rw [hW',Array.getElem?_modify,if_neg fun h=>hn (by simp [h])]
 have hat':(W.freeze ⟨(α n0).b,len,none⟩ 1).heap[(α n0).b]?=some (.cells (denL ρ α b.c).toArray b.t (len,len+1)):=by
  rw [hW',Array.getElem?_modify,if_pos rfl,hat]
  rfl
 have hst2:=St.mark hst (W':=W.freeze ⟨(α n0).b,len,none⟩ 1) rfl rfl rfl hsm
 have hA:InvA w0 ps T ρ (s.lay n0 tomb) a (W.freeze ⟨(α n0).b,len,none⟩ 1) α:=by
  refine⟨hI.defers,⟨hI.good.len,hI.good.fit,hI.good.kn⟩,⟨hI.wf.fr,hI.wf.stk,fun d hd=>?_,hI.wf.ln⟩,hI.fm,hI.fms,?_,fun m c hc=>?_,hI.lens⟩
  ·rcases mem_set hd with h|h
   ·obtain rfl:d=tomb:=by simpa using h
    rfl
   exact hI.wf.hp d h
  ·show St w0 (chs ρ α 0 (s.hp.set n0 (some tomb))) (osA a s T) (exs w0 ρ α 0 (s.hp.set n0 (some tomb))++ps) _
   rw [h2]
   have e0:(some tomb).bind (fun b=>b.ch ρ α (0+n0))=none:=by simp [Blk.ch,tomb]
   rw [e0]
   refine st_ps hst2 (app_sub (exs_sub fun m c hc=>?_))
   rcases set_cases hc with ⟨rfl,rfl⟩|⟨_,h⟩
   ·exact .inl rfl
   exact .inr ⟨c,h,rfl⟩
  rcases set_cases hc with ⟨rfl,rfl⟩|⟨_,h⟩
  ·exact⟨hI.live _ _ hn,by simp [Blk.rowOk,tomb]⟩
  exact hI.rows m c h
 have hxs:(⟨[.a b.c],0,.ext 1⟩:Blk).xs ρ α=denL ρ α b.c:=by simp [Blk.xs,denL,V.den,cellsV]
 have hfin:=fin_ext (s:=s.lay n0 tomb |>.room 1) (o:=o) (K:=K) (nm:=s.hp.length) (v:=.row s.hp.length) (b:=⟨[.a b.c],0,.ext 1⟩) (sz:=1) (u:=.slice (some ⟨(α n0).b,0,none⟩) len len) (hA.room 1) (freeAt_in hf) rfl hw hK ⟨0,.slice (some ⟨(α n0).b,0,none⟩) len len,[]⟩ (hA.room 1).st (by decide) ⟨_,_,_,rfl,by rw [hxs,denL_len,hlen,Nat.mul_one],Nat.le_refl _,fun _=>rfl⟩ (fun W2 hW2=>?_) (fun α' h1 _=>by simp only [V.den,h1])
 ·unfold Oper.wp execOp
  simp only [hop,hx,Sem.run_bind,Sem.run_pure,Result.andThen_ok,hrun]
  exact hfin
 rw [hxs]
 refine⟨⟨?_,Nat.le_refl _⟩,.inl fun ad n' c' e' _=>?_⟩
 ·have hR:Rd (W.freeze ⟨(α n0).b,len,none⟩ 1) 1 (some ⟨(α n0).b,0,none⟩) len (denL ρ α b.c):=by
   refine⟨by rw [denL_len,hlen,Nat.mul_one],fun _=>⟨_,rfl,(Array.getElem?_eq_some_iff.1 hat').1,fun j u hu=>?_⟩⟩
   have hadd:(⟨(α n0).b,0,none⟩:Addr).add j=⟨(α n0).b,j,none⟩:=by unfold Addr.add;split<;>simp_all
   rw [hadd]
   unfold World.cell?
   simp only [hat',Option.isSome_none,Bool.false_eq_true,if_false]
   rw [List.getElem?_toArray]
   exact hu
  refine hR.same hW2 fun ad e' hm=>?_
  cases e'
  have hm:(α n0).b∈muts (chs ρ α 0 (s.hp.set n0 (some tomb)++List.replicate 1 none)) (osA a s T):=hm
  rw [chs_append,h2,show(some tomb).bind (fun b=>b.ch ρ α (0+n0))=none by simp [Blk.ch,tomb]]at hm
  have hm:(α n0).b∈muts (l1++l2) (osA a s T):=hm
  have hp:(muts (l1++((⟨(α n0).b,(denL ρ α b.c).toArray,b.t⟩:Ch)::l2)) (osA a s T)).Perm ((α n0).b::muts (l1++l2) (osA a s T)):=by
   unfold muts
   simp only [List.map_append,List.map_cons,List.append_assoc,List.cons_append]
   exact List.perm_middle
  exact(List.nodup_cons.1 (hp.nodup_iff.1 hst.nodup)).1 hm
 cases e'
 exact hge
theorem go_ok(hC:C.Ok)(hps:Ctx C w0 ps){G:Cfg}(hk12:G.keep=12→w0.ms=[]){n lv:Nat}{all:Array Oper}{o:Oper}{rest:List Oper}{k:List It}{J:List (Act→World→Prop)}{L:List (Cx→List Value→Prop)}(hI:Inv w0 ps T ρ s a W)(hwant:Region.wanted o (yielded all a.tmps)=true)
 (hrest:∀ s' ρ' a' W',VC C w0 ps T0 R L ρ' (run C G n lv s' (.ops all rest::k))→ρ<+:ρ'→Inv w0 ps T ρ' s' a' W'→wpLR (rnd k T) C.P all (wpK C.P R k T J) rest a' W')
 (hself:∀ s' ρ',VC C w0 ps T0 R L ρ' (run C G n lv s' (.ops all (o::rest)::k))→ρ<+:ρ'→Inv w0 ps T ρ' s' a W→wpLR (rnd k T) C.P all (wpK C.P R k T J) (o::rest) a W)
 (ih:∀ (lv:Nat) (s:S) (items:List It) (T:List TF) (J:List (Act→World→Prop)) (L:List (Cx→List Value→Prop)) (ρ:List Value) (a:Act) (W:World),VC C w0 ps T0 R L ρ (run C G n lv s items)→L.length=lv→Rel w0 ps T0 L ρ items T J→Inv w0 ps T ρ s a W→wpK C.P R items T J .normal a W)
 (hN:(∀ f,C.cw f=none)→∀ (N:List Arg) (ps':List (World→Prop)),RunOk (C.plus N) ps' n) (hL:L.length=lv) (hr:Rel w0 ps T0 L ρ k T J) (hv:VC C w0 ps T0 R L ρ (goT C G n lv s all o rest k)):wpLR (rnd k T) C.P all (wpK C.P R k T J) (o::rest) a W:=by
 have hleft:(∀ c,o.op≠.defer c)→o.wp C.P a W (wpLR (rnd k T) C.P all (wpK C.P R k T J) rest) (wpK C.P R k T J)→wpLR (rnd k T) C.P all (wpK C.P R k T J) (o::rest) a W:=fun hd h=>wpLR_cons hwant (operIn_of_wp hd h)
 have hrefl:=List.prefix_refl ρ
 unfold goT at hv
 split at hv
 ·simp [VC]at hv
 rename_i vs hvs
 split at hv
 ·rename_i n0 b len hcv
  split at hv
  ·rename_i hw
   simp only [Bool.and_eq_true]at hw
   obtain⟨α,hA⟩:=hI
   exact hleft (by obtain⟨_,t,x,e,hop,_⟩:=cvV_eq hcv;rw [hop];exact fun c h=>nomatch h) (cv_ok (hk12 (cvV_eq hcv).1) hvs hcv hA hw.1 hw.2 fun a' W' h=>hrest _ ρ a' W' hv hrefl h)
  simp [VC]at hv
 rename_i hnn
 clear hnn
 split at hv
 ·rename_i g rw as' sh hnc
  split at hv
  ·rename_i hw
   simp only [VC]at hv
   rcases hv with ⟨v,hrel,_⟩|⟨hcw,Q,hq,hvv⟩
   ·exact(rel_q (hrel fun _=>default)).elim
   obtain⟨α,hA⟩:=hI
   refine hleft (by obtain⟨c,f,hop,_⟩:=nCall_eq hnc;rw [hop];exact fun c h=>nomatch h) (callq_ok hC hps hvs hnc hA (hq α) hw fun v N a' W' hfit hQ hI'=>?_)
   exact hN hcw (N++C.N) _ w0 T0 R G lv _ (.ops all rest::k) T J L (ρ++[v]) a' W' hk12 (hps.plus _) (by rw [run_plus C];exact hvv v N hfit hQ) hL ((Rel.mono ⟨[v],rfl⟩ (List.prefix_refl _) (k:=k) hr).psm fun p hp=>List.mem_cons_of_mem _ (List.mem_cons_of_mem _ hp)) hI'
  simp [VC]at hv
 rename_i hnn
 clear hnn
 split at hv
 ·rename_i v wr hpl
  split at hv
  ·rename_i hw
   exact hleft (plan_nd hpl nofun) (ef_old hvs hpl hI hw fun a' W' h=>hrest _ ρ a' W' hv hrefl h)
  simp [VC]at hv
 ·rename_i v b wr hpl
  split at hv
  ·rename_i hw
   exact hleft (plan_nd hpl nofun) (ef_new hvs hpl hI hw fun a' W' h=>hrest _ ρ a' W' hv hrefl h)
  simp [VC]at hv
 ·rename_i q args sh mk wr hpl
  split at hv
  ·rename_i hw
   simp only [VC]at hv
   obtain⟨v,hrel,hfit,hv⟩:=hv.resolve_right fun⟨_,_,hq,_⟩=>by
    simp only [Bool.and_eq_true]at hw
    first
     | exact relN_no hw.1.2 (hq fun _=>default)
     | exact relN_no hw.1.1.2 (hq fun _=>default)
   obtain⟨α,hA⟩:=hI
   exact hleft (plan_nd hpl nofun) (df_old hC hps hvs hpl hA (hrel α) hfit hw fun a' W' h=>hrest _ (ρ++[v]) a' W' hv ⟨[v],rfl⟩ h)
  simp [VC]at hv
 ·rename_i q args sh mk b wr hpl
  split at hv
  ·rename_i hw
   simp only [VC]at hv
   obtain⟨v,hrel,hfit,hv⟩:=hv.resolve_right fun⟨_,_,hq,_⟩=>by
    simp only [Bool.and_eq_true]at hw
    first
     | exact relN_no hw.1.2 (hq fun _=>default)
     | exact relN_no hw.1.1.2 (hq fun _=>default)
   obtain⟨α,hA⟩:=hI
   exact hleft (plan_nd hpl nofun) (df_new hC hps hvs hpl hA (hrel α) hfit hw fun a' W' h=>hrest _ (ρ++[v]) a' W' hv ⟨[v],rfl⟩ h)
  simp [VC]at hv
 ·rename_i i p hpl
  split at hv
  ·rename_i hi
   simp only [VC]at hv
   obtain⟨b,hb,hbt,hbf⟩:=hv
   cases b
   ·exact hself _ ρ (hbf rfl) hrefl (br_inv hI hi hb)
   exact hself _ ρ (hbt rfl) hrefl (br_inv hI hi hb)
  simp [VC]at hv
 ·rename_i i p m hpl
  split at hv
  ·rename_i hi
   simp only [VC]at hv
   obtain⟨⟨j,hj,hu⟩,hv⟩:=hv
   have hj':j<m:=by simpa using hj
   have:=VCs_at (j:=j) hv (t:=run C G n lv (s.dec i p (.int .i64 (j:Int))) (.ops all (o::rest)::k)) (by simp [hj']) (by rw [hu,Nat.zero_add])
   exact hself _ ρ this hrefl (br_inv hI hi hu)
  simp [VC]at hv
 split at hv
 ·rename_i n0 hz
  obtain⟨h12,b,hn0,hbk⟩:=frzV_eq hz
  obtain⟨α,hA⟩:=hI
  exact hself _ ρ hv hrefl ⟨α,hA.freeze (hk12 h12) hn0 hbk⟩
 split at hv
 ·rename_i n0 sz c hz
  obtain⟨h12,b,hn0,hbk,rfl⟩:=lstV_eq hz
  simp only [VC]at hv
  rcases hv with ⟨v,hrel,_⟩|⟨hcw,Q,hq,hvv⟩
  ·exact(rel_l (hrel fun _=>default)).elim
  obtain⟨α,hA⟩:=hI
  obtain⟨A,len,cap,e1,e3,e4,e5,hI'⟩:=hA.last hps (hk12 h12) hn0 hbk
  have e2:(denL ρ α [V.cat b.c]).flatMap cellsV=b.xs ρ α:=by simp [denL,V.den,cellsV,Blk.xs]
  have hq2:=hq α A len cap (by rw [e2];exact e3) e4 e5
  rw [e2,← e1]at hq2
  have:=hvv _ _ (by rw [e1];rfl) hq2
  exact hN hcw ([⟨(α n0).h,sz,b.xs ρ α⟩]++C.N) _ w0 T0 R G lv _ (.ops all (o::rest)::k) T J L (ρ++[(α n0).h]) a W hk12 (hps.plus _) (by rw [run_plus C];exact this) hL ((Rel.mono ⟨[_],rfl⟩ (List.prefix_refl _) (k:=k) hr).psm fun p hp=>List.mem_cons_of_mem _ (List.mem_cons_of_mem _ hp)) hI'
 split at hv
 ·rename_i c g fs cap args hop _ _ _
  split at hv
  ·rename_i f fn hcal hfn hen
   split at hv
   ·rename_i body hbody
    split at hv
    ·rename_i hw
     simp only [Bool.and_eq_true,decide_eq_true_eq]at hw hen
     obtain⟨α,hA⟩:=hI
     have he:=mapM_den hA.good hA.fm hvs
     rw [hop]at he
     obtain⟨cal,ar,at'⟩:=c
     simp only at hcal
     subst hcal
     simp only [Op.operands,Call.operands,denL,V.den]at he
     simp at he
     obtain⟨h7,h8⟩:=he
     refine hleft (by rw [hop];intro c h;cases h) (wp_callB hop h7 (vs:=(denL ρ α (fs++(args++cap))).toArray) ?_ (enters_run hen.1 _ _)
      (R:=fun v W'=>wpLR (rnd k T) C.P all (wpK C.P R k T J) rest (({ tmps:=a.tmps,defers:=a.defers }:Act).put o.dst v) W') ?_ ?_)
     ·exact Array.ext' (by simp [denL_app,h8])
     ·refine calls_of_endR hfn hbody ?_
      have hI':Inv w0 ps (⟨a.tmps,a.defers,none⟩::T) ρ { s with fr:=(fs++(args++cap)).map some++List.replicate (fn.ntmps-(fs++(args++cap)).length) (some (.k undef)),stk:=s.fr::s.stk,cur:=g }
       { tmps:=(denL ρ α (fs++(args++cap))).toArray++Array.replicate (fn.ntmps-(denL ρ α (fs++(args++cap))).toArray.size) undef,defers:=[] } W:=by
       refine⟨α,⟨nofun,hA.defers⟩,⟨hA.good.len,hA.good.fit,hA.good.kn⟩,⟨fun v hv'=>?_,fun f hf=>?_,hA.wf.hp,hA.wf.ln⟩,⟨by simp [denL_len];omega,fun d v hd=>?_⟩,⟨hA.fm,hA.fms⟩,hA.st,hA.rows,hA.lens⟩
       ·rcases List.mem_append.1 hv' with h|h
        ·obtain⟨u,hu,e⟩:=List.mem_map.1 h
         obtain rfl:u=v:=by simpa using e
         rw [← hA.good.len]
         exact wfL_mem hw.2 u hu
        ·have:=List.eq_of_mem_replicate h
         cases this
         rfl
       ·rcases List.mem_cons.1 hf with rfl|hf
        ·exact hA.wf.fr
        exact hA.wf.stk f hf
       rw [Array.getElem?_append]
       simp only [List.size_toArray,denL_len]
       by_cases hlt:d<(fs++(args++cap)).length
       ·rw [List.getElem?_append_left (by simpa using hlt),List.getElem?_map,List.getElem?_eq_getElem hlt]at hd
        simp only [Option.map_some,Option.some.injEq]at hd
        rw [if_pos hlt]
        simpa using denL_at (ρ:=ρ) (α:=α) (by rw [List.getElem?_eq_getElem hlt,hd])
       rw [List.getElem?_append_right (by simpa using hlt),List.getElem?_replicate]at hd
       rw [if_neg hlt,Array.getElem?_replicate]
       simp only [List.length_map]at hd
       split at hd
       ·rename_i h9
        rw [if_pos h9]
        cases hd
        rfl
       cases hd
      have:=ih lv _ (.code body::.back fn s.cur o.dst all rest::k) (⟨a.tmps,a.defers,none⟩::T) J L ρ _ W hv hL ⟨rfl,hr⟩ hI'
      exact this
     intro v W' h
     exact h
    simp [VC]at hv
   simp [VC]at hv
  simp [VC]at hv
 ·-- a round
  rename_i c m args hop _ _ _
  split at hv
  ·rename_i f m' lps' fr stk' cur ps' assign body hcal hlps hstk hend
   split at hv
   ·rename_i hw
    obtain⟨rfl,hw2,hw3⟩:=hw
    obtain⟨α,hA⟩:=hI
    obtain⟨hrn,c0,T',l,r,rfl,hlp,hp1,hp2,hp3⟩:=endl_ok hend hr
    have hLps:=hA.defers.2
    rw [hlps]at hLps
    obtain⟨hm0,⟨q1,q2,q3,q4,q5⟩,hLt⟩:=(Lps_some hlp).1 hLps
    have hst:=hA.st
    have hos:osA a s (c0::T')=markOs a.defers++(⟨l,.loop r⟩::⟨r.defers,.deferred (some [])⟩::(markOs c0.ds++loopOs lps' T')):=by
     unfold osA
     rw [hlps,loopOs_some hlp]
     simp only [LS.st,LS.pe,rec_ready q3 q4]
    have hl:W.heap[l]?=some (.loop r):=(hst.own ⟨l,.loop r⟩ (by rw [hos];simp)).2
    have he:=mapM_den hA.good hA.fm hvs
    rw [hop]at he
    obtain⟨cal,ar,at'⟩:=c
    simp only at hcal
    subst hcal
    simp only [Op.operands,Call.operands,denL,V.den]at he
    simp at he
    obtain⟨h7,h8⟩:=he
    have hfms:=hA.fms
    rw [hstk]at hfms
    have hwstk:=hA.wf.stk
    rw [hstk]at hwstk
    refine wpLR_cons hwant (wpR_yield (l:=l) (r:=r) (vs:=(denL ρ α args).toArray) hop (by rw [h7,q2]) ?_ hl (by simp [denL_len,hw2,hp1]) q3 ?_)
    ·exact Array.ext' (by simp [h8])
    have hI':Inv w0 ps (⟨a.tmps,a.defers,none⟩::c0::T') ρ { s with fr:=roundF fr ps' args,stk:=s.fr::s.stk,cur:=cur } { tmps:=roundT r (denL ρ α args).toArray,defers:=[] } W:=by
     refine⟨α,⟨nofun,hA.defers⟩,⟨hA.good.len,hA.good.fit,hA.good.kn⟩,⟨?_,fun f hf=>?_,hA.wf.hp,hA.wf.ln⟩,?_,⟨hA.fm,hA.fms⟩,hA.st,hA.rows,hA.lens⟩
     ·rw [← hA.good.len]
      exact roundF_wf _ _ _ (by rw [hA.good.len];exact hwstk fr (List.mem_cons_self ..)) hw3
     ·rcases List.mem_cons.1 hf with rfl|hf
      ·exact hA.wf.fr
      exact hA.wf.stk f hf
     rw [roundT_eq,q5,hp1]
     exact roundF_ok args _ _ _ _ hfms.1
    have h:=ih lv _ (.code assign::.beginR::.code body::.endR s.cur o.dst all rest::k) (⟨a.tmps,a.defers,none⟩::c0::T') J L ρ _ W hv hL ⟨⟨_,_,rfl,rfl,by simp [lpOf,hlp]⟩,rfl,by simp [lpOf,hlp],hr⟩ hI'
    have hrd:rnd (.endR s.cur o.dst all rest::k) (⟨a.tmps,a.defers,none⟩::c0::T')=some l:=by simp [rnd,hlp]
    have h:wpR (rnd (.endR s.cur o.dst all rest::k) (⟨a.tmps,a.defers,none⟩::c0::T')) C.P assign (wpK C.P R (.beginR::.code body::.endR s.cur o.dst all rest::k) (⟨a.tmps,a.defers,none⟩::c0::T') J) { tmps:=roundT r (denL ρ α args).toArray,defers:=[] } W:=h
    rw [hrd]at h
    subst hp2
    subst hp3
    refine wpR_mono h fun e a1 W1 hq=>?_
    cases e with
    | normal =>
     obtain⟨l',r',e1,e2,e3⟩:=hq
     have e1:c0.lp=some (l',r'):=e1
     rw [hlp]at e1
     cases e1
     refine⟨e2,?_⟩
     have e3:wpR (rnd (.endR s.cur o.dst all rest::k) (⟨a.tmps,a.defers,none⟩::c0::T')) C.P r.body (wpK C.P R (.endR s.cur o.dst all rest::k) (⟨a.tmps,a.defers,none⟩::c0::T') J) a1 (W1.putObj l (.loop { r with state:=.busy })):=e3
     rw [hrd]at e3
     refine wpR_mono e3 fun e2 a2 W2 hq2=>?_
     obtain⟨l',r',e1,e2⟩:=hq2
     have e1:c0.lp=some (l',r'):=e1
     rw [hlp]at e1
     cases e1
     exact e2
    | exit id=>exact hq
    | ret=>exact hq
    | goto t=>exact hq
    | panic c=>exact hq
    | outgrown=>exact hq
   simp [VC]at hv
  simp [VC]at hv
 simp [VC]at hv
theorem run_zero:RunOk C ps 0:=by
 intro w0 T0 R G lv s items T J L ρ a W hk12 hps hv
 simp [run,VC]at hv
theorem Inv.sub{ps':List (World→Prop)}(hI:Inv w0 ps' T ρ s a W)(h:∀ p∈ps,p∈ps'):Inv w0 ps T ρ s a W:=let ⟨α,hA⟩:=hI;⟨α,hA.more fun p hp=>.inl (h p hp)⟩
theorem run_step(hC:C.Ok){n:Nat}(ih0:RunOk C ps n)(hN:(∀ f,C.cw f=none)→∀ (N:List Arg)(ps':List (World→Prop)),RunOk (C.plus N) ps' n):RunOk C ps (n+1):=by
 intro w0 T0 R G lv s items T J L ρ a W hk12 hps hv hL hr hI
 have ih:=fun lv s items T J L ρ a W=>ih0 w0 T0 R G lv s items T J L ρ a W hk12 hps
 unfold run at hv
 split at hv
 ·simp [VC]at hv
 ·-- top
  rename_i fn k
  split at hv
  ·rename_i v hres
   split at hv
   ·rename_i hwf
    simp only [VC]at hv
    obtain⟨α,hA⟩:=hI
    obtain⟨W2,htk,hA⟩:=hA.take
    refine⟨W2,v.den ρ α,htk,res_ok hA hres,hv α W2 (by have:=hA.fms;rwa [show T=T0 from hr]at this) ?_ ?_⟩
    ·unfold keptH
     split
     ·exact fun m b h=>nomatch h
     ·exact fun m b h=>(hA.rows m b h).2
     exact fun m b h=>(hA.rows m b (keepH_at h).1).2
    unfold keptH
    split
    ·exact hA.st.weak (List.nil_sublist _) (List.nil_sublist _) fun p h=>List.mem_append.2 (.inr (by simpa [exs]using h))
    ·exact hA.st.weak (.refl _) (List.nil_sublist _) fun p h=>h
    exact hA.st.weak (chs_sub fun m b h=>⟨b,(keepH_at h).1,rfl,rfl,rfl⟩) (List.nil_sublist _) (app_sub (exs_sub fun m b h=>.inr ⟨b,(keepH_at h).1,rfl⟩))
   simp [VC]at hv
  simp [VC]at hv
 ·-- back
  rename_i fn cur dst all rest k
  split at hv
  ·rename_i v fr stk hres hstk
   split at hv
   ·rename_i hwf
    obtain⟨α,hA⟩:=hI
    cases T with
    | nil=>exact hr.elim
    | cons t T =>
     obtain⟨W2,htk,hA⟩:=hA.take
     refine⟨W2,v.den ρ α,htk,res_ok hA hres,v.den ρ α,rfl,?_⟩
     have hfm:=hA.fms
     rw [hstk]at hfm
     have hI':Inv w0 ps T ρ (({ s with fr:=fr,stk:=stk,cur:=cur }:S).put dst v) (({ tmps:=t.t,defers:=t.ds }:Act).put dst (v.den ρ α)) W2:=by
      refine⟨α,InvA.put (s:={ s with fr:=fr,stk:=stk,cur:=cur }) ⟨(Lps_none hr.1).1 hA.defers.2,⟨hA.good.len,hA.good.fit,hA.good.kn⟩,⟨hA.wf.stk fr (by rw [hstk];exact List.mem_cons_self ..),fun f hf=>hA.wf.stk f (by rw [hstk];exact List.mem_cons_of_mem _ hf),hA.wf.hp,hA.wf.ln⟩,hfm.1,hfm.2,by have:=hA.st;unfold osA at this ⊢;rwa [loopOs_none hr.1]at this,hA.rows,hA.lens⟩ dst (by rw [← hA.good.len];exact hwf)⟩
     exact ih lv _ (.ops all rest::k) T J L ρ _ W2 hv hL hr.2 hI'
   simp [VC]at hv
  simp [VC]at hv
 ·-- again
  rename_i l an ws s0 k
  split at hv
  ·rename_i n0 sz c hz
   obtain⟨h12,b,hn0,hbk,rfl⟩:=lstA_eq hz
   simp only [VC]at hv
   rcases hv with ⟨v,hrel,_⟩|⟨hcw,Q,hq,hvv⟩
   ·exact(rel_l (hrel fun _=>default)).elim
   obtain⟨α,hA⟩:=hI
   obtain⟨A,len,cap,e1,e3,e4,e5,hI'⟩:=hA.last hps (hk12 h12) hn0 hbk
   have e2:(denL ρ α [V.cat b.c]).flatMap cellsV=b.xs ρ α:=by simp [denL,V.den,cellsV,Blk.xs]
   have hq2:=hq α A len cap (by rw [e2];exact e3) e4 e5
   rw [e2,← e1]at hq2
   have:=hvv _ _ (by rw [e1];rfl) hq2
   exact hN hcw ([⟨(α n0).h,sz,b.xs ρ α⟩]++C.N) _ w0 T0 R G lv _ (.again l an ws s0::k) T J L (ρ++[(α n0).h]) a W hk12 (hps.plus _) (by rw [run_plus C];exact this) hL ((Rel.mono ⟨[_],rfl⟩ (List.prefix_refl _) hr).psm fun p hp=>List.mem_cons_of_mem _ (List.mem_cons_of_mem _ hp)) hI'
  refine settle_ok hps an.pos s ρ _ hv hI fun s ρ' hv hρ hI=>?_
  split at hv
  ·rename_i vals hvals
   split at hv
   ·rename_i hc
    simp only [Bool.and_eq_true,beq_iff_eq,decide_eq_true_eq]at hc
    obtain⟨⟨⟨⟨⟨⟨⟨h1,h2⟩,h3⟩,h3l⟩,h4⟩,h5⟩,h6⟩,h7⟩:=hc
    simp only [VC]at hv
    obtain⟨α,hA⟩:=hI
    cases J with
    | nil=>exact hr.elim
    | cons j J =>
     obtain⟨⟨ρ0,A,ps0,hp0,hA1,hp,hg,hw,hlive,hlpl,hj⟩,_⟩:=hr
     have hvv:=hv α
     rw [List.getD_eq_getElem?_getD,hA1]at hvv
     have hM:Match an ws s0 s:=by
      obtain⟨q1,q2⟩:=eqbFr_le h1
      refine⟨⟨q1,fun d v hd1 hv'=>q2 d v (by rw [Nat.zero_add];exact hd1) hv'⟩,eqbSs_le h2,fun m b hb hnd=>?_,fun m b hb=>eqbH_same h3l hb,hlive,h7,hlpl⟩
      have:=eqbH_le h3 m b hb (by rw [Nat.zero_add];exact hnd)
      simpa using this
     obtain⟨hf,hfit⟩:=fresh_inv hA (hp.trans hρ) hg hw hM hvals h5
     exact hj C ps _ a W hps hp0 hvv hfit hf
   simp [VC]at hv
  simp [VC]at hv
 ·-- a round begins
  rename_i k
  split at hv
  ·rename_i m lps' hlps
   obtain⟨⟨it,T1,rfl,hit,hl1⟩,hr⟩:=hr
   obtain⟨c,T',l,r,rfl,hlp⟩:=lpOf_some hl1
   obtain⟨α,hA⟩:=hI
   have hLps:=hA.defers.2
   rw [hlps,Lps_none hit,Lps_some hlp]at hLps
   obtain⟨hmi,hmc,⟨q1,q2,q3,q4,q5⟩,hLt⟩:=hLps
   have hst:=hA.st
   unfold osA at hst
   rw [hlps,loopOs_none hit,loopOs_some hlp,← List.append_assoc]at hst
   simp only [LS.st,LS.pe,rec_ready q3 q4]at hst
   have hl:W.heap[l]?=some (.loop r):=(hst.own ⟨l,.loop r⟩ (by simp)).2
   refine⟨l,r,hlp,hl,?_⟩
   refine ih lv _ k (it::c::T') J L ρ a (W.putObj l (.loop { r with state:=.busy })) hv hL hr ⟨α,⟨hA.defers.1,(Lps_none hit).2 ⟨hmi,(Lps_some hlp).2 ⟨hmc,⟨q1,q2,q3,q4,q5⟩,hLt⟩⟩⟩,⟨hA.good.len,hA.good.fit,hA.good.kn⟩,⟨hA.wf.fr,hA.wf.stk,hA.wf.hp,hA.wf.ln⟩,hA.fm,hA.fms,?_,hA.rows,hA.lens⟩
   unfold osA
   rw [loopOs_none hit,loopOs_some hlp,← List.append_assoc]
   simp only [LS.st,LS.pe,rec_busy q4]
   exact St.put_ hst
  simp [VC]at hv
 ·-- a round ends
  rename_i cur dst all rest k
  split at hv
  ·rename_i m lps' fr stk hlps hstk
   cases T with
   | nil=>exact hr.elim
   | cons it T1 =>
    obtain⟨hit,hl1,hr⟩:=hr
    obtain⟨c,T',l,r,rfl,hlp⟩:=lpOf_some hl1
    obtain⟨α,hA⟩:=hI
    have hLps:=hA.defers.2
    rw [hlps,Lps_none hit,Lps_some hlp]at hLps
    obtain⟨hmi,hmc,⟨q1,q2,q3,q4,q5⟩,hLt⟩:=hLps
    have hst:=hA.st.weak (os':=loopOs s.lps (it::c::T')) (.refl _) (List.sublist_append_right _ _) fun _ h=>h
    rw [hlps,loopOs_none hit,loopOs_some hlp]at hst
    simp only [LS.st,LS.pe,rec_busy q4]at hst
    have hl:W.heap[l]?=some (.loop { r with state:=.busy }):=(hst.own ⟨l,.loop { r with state:=.busy }⟩ (by simp)).2
    have hfm:=hA.fms
    rw [hstk]at hfm
    refine⟨l,r,hlp,hl,?_⟩
    have hI':Inv w0 ps (c::T') ρ (({ s with fr:=fr,stk:=stk,lps:=(m,.ready)::lps',cur:=cur }:S).put dst (.k (.bool true))) (({ tmps:=it.t,defers:=it.ds }:Act).put dst (.bool true)) (W.putObj l (.loop { r with state:=.ready,pending:=none })):=by
     refine⟨α,InvA.put_any (s:={ s with fr:=fr,stk:=stk,lps:=(m,.ready)::lps',cur:=cur }) (v:=.k (.bool true)) ⟨⟨hmi,(Lps_some hlp).2 ⟨hmc,⟨q1,q2,q3,q4,q5⟩,hLt⟩⟩,⟨hA.good.len,hA.good.fit,hA.good.kn⟩,⟨hA.wf.stk fr (by rw [hstk];exact List.mem_cons_self ..),fun f hf=>hA.wf.stk f (by rw [hstk];exact List.mem_cons_of_mem _ hf),hA.wf.hp,hA.wf.ln⟩,hfm.1,hfm.2,?_,hA.rows,hA.lens⟩ dst rfl rfl⟩
     unfold osA
     rw [loopOs_some hlp]
     simp only [LS.st,LS.pe]
     exact St.put_ hst
    exact ih lv _ (.ops all rest::k) (c::T') J L ρ _ _ hv hL hr hI'
  simp [VC]at hv
 ·-- a round is left
  rename_i j cur dst all rest k
  split at hv
  ·rename_i m lps' fr stk hlps hstk
   split at hv
   ·rename_i hpe
    cases T with
    | nil=>exact hr.elim
    | cons it T1 =>
     obtain⟨hit,hl1,hr⟩:it.lp=none∧(lpOf T1).isSome=true∧Rel w0 ps T0 L ρ k T1 J:=hr
     obtain⟨c,T',l,r,rfl,hlp⟩:=lpOf_some hl1
     obtain⟨α,hA⟩:=hI
     have hLps:=hA.defers.2
     rw [hlps,Lps_none hit,Lps_some hlp]at hLps
     obtain⟨hmi,hmc,⟨q1,q2,q3,q4,q5⟩,hLt⟩:=hLps
     have hst:=hA.st.weak (os':=loopOs s.lps (it::c::T')) (.refl _) (List.sublist_append_right _ _) fun _ h=>h
     rw [hlps,loopOs_none hit,loopOs_some hlp]at hst
     simp only [LS.st,LS.pe,rec_busy q4]at hst
     have hl:W.heap[l]?=some (.loop { r with state:=.busy }):=(hst.own ⟨l,.loop { r with state:=.busy }⟩ (by simp)).2
     have hfm:=hA.fms
     rw [hstk]at hfm
     have hI':∀ W2,W2=W.putObj l (.loop { r with state:=j.st,pending:=j.pe })→Inv w0 ps (c::T') ρ (({ s with fr:=fr,stk:=stk,lps:=(m,j)::lps',cur:=cur }:S).put dst (.k (.bool false))) (({ tmps:=it.t,defers:=it.ds }:Act).put dst (.bool false)) W2:=by
      rintro W2 rfl
      refine⟨α,InvA.put_any (s:={ s with fr:=fr,stk:=stk,lps:=(m,j)::lps',cur:=cur }) (v:=.k (.bool false)) ⟨⟨hmi,(Lps_some hlp).2 ⟨hmc,⟨q1,q2,q3,q4,q5⟩,hLt⟩⟩,⟨hA.good.len,hA.good.fit,hA.good.kn⟩,⟨hA.wf.stk fr (by rw [hstk];exact List.mem_cons_self ..),fun f hf=>hA.wf.stk f (by rw [hstk];exact List.mem_cons_of_mem _ hf),hA.wf.hp,hA.wf.ln⟩,hfm.1,hfm.2,?_,hA.rows,hA.lens⟩ dst rfl rfl⟩
      unfold osA
      rw [loopOs_some hlp]
      exact St.put_ hst
     have hgo:=fun W2 h=>ih lv _ (.ops all rest::k) (c::T') J L ρ _ W2 hv hL hr (hI' W2 h)
     cases j with
     | ready=>simp [LS.pe]at hpe
     | busy=>simp [LS.pe]at hpe
     | ret=>exact⟨.ret,rfl,l,r,hlp,hl,hgo _ rfl⟩
     | exit id=>exact⟨.exit id,rfl,l,r,hlp,hl,hgo _ rfl⟩
   simp [VC]at hv
  simp [VC]at hv
 ·simp [VC]at hv
 ·-- an iterator's end
  rename_i fn cur ps' assign body k
  split at hv
  ·rename_i v m q lps' fr stk hres hlps hstk
   split at hv
   ·simp [VC]at hv
   rename_i hq
   cases T with
   | nil=>exact hr.elim
   | cons c T' =>
    obtain⟨⟨l,r,hlp,hp1,hp2,hp3⟩,hrn,hr⟩:=hr
    obtain⟨α,hA⟩:=hI
    obtain⟨W2,htk,hA⟩:=hA.take
    have hLps:=hA.defers.2
    rw [hlps,Lps_some hlp]at hLps
    obtain⟨hmc,⟨q1,q2,q3,q4,q5⟩,hLt⟩:=hLps
    have hst:St w0 (chs ρ α 0 s.hp) (loopOs s.lps (c::T')) _ W2:=hA.st
    rw [hlps,loopOs_some hlp]at hst
    have hl:W2.heap[l]?=some (.loop { r with state:=q.st,pending:=q.pe }):=(hst.own ⟨l,.loop { r with state:=q.st,pending:=q.pe }⟩ (by simp)).2
    have hfm:=hA.fms
    rw [hstk]at hfm
    refine⟨W2,v.den ρ α,htk,res_ok hA hres,l,r,v.den ρ α,q.st,q.pe,hlp,rfl,by cases q<;>simp [LS.st]at hq ⊢,hl,?_⟩
    have hI':Inv w0 ps T' ρ { s with fr:=fr,stk:=stk,lps:=lps',cur:=cur } (markA r.defers { tmps:=c.t,defers:=c.ds }) (W2.putObj l (.loop { r with state:=.exhausted,pending:=q.pe })):=by
     refine⟨α,⟨fun d hd=>?_,hLt⟩,⟨hA.good.len,hA.good.fit,hA.good.kn⟩,⟨hA.wf.stk fr (by rw [hstk];exact List.mem_cons_self ..),fun f hf=>hA.wf.stk f (by rw [hstk];exact List.mem_cons_of_mem _ hf),hA.wf.hp,hA.wf.ln⟩,hfm.1,hfm.2,?_,hA.rows,hA.lens⟩
     ·rcases List.mem_cons.1 hd with rfl|hd
      ·exact⟨_,rfl⟩
      exact hmc d hd
     exact(St.put_ (a:=[]) hst).drop_
    cases hpe:q.pe with
    | none =>
     simp only [hpe]at hv hI' ⊢
     exact ih lv _ k T' J L ρ _ _ hv hL hr hI'
    | some co =>
     simp only [hpe]at hv hI' ⊢
     have:=ih lv _ (.code co::k) T' J L ρ _ _ hv hL hr hI'
     have this:wpR (rnd k T') C.P co (wpK C.P R k T' J) _ _:=this
     rw [hrn]at this
     exact this
  simp [VC]at hv
 ·-- inBlock
  rename_i id k
  exact ih lv s k T J L ρ a W hv hL hr hI
 ·-- rounds
  rename_i c m k
  cases m with
  | zero=>simp [VC]at hv
  | succ m=>exact ih lv s (.code c::.rounds c m::k) T J L ρ a W hv hL hr hI
 ·-- code
  rename_i c k
  split at hv
  ·exact wpR_skip (ih lv s k T J L ρ a W hv hL hr hI)
  ·exact wpR_label (ih lv s k T J L ρ a W hv hL hr hI)
  ·rename_i x y
   have:=ih lv s (.code x::.code y::k) T J L ρ a W hv hL hr hI
   exact wpR_seq this
  ·rename_i id c
   exact wpR_block (ih lv s (.code c::.inBlock id::k) T J L ρ a W hv hL hr hI)
  ·-- cond
   rename_i x c1 c2
   obtain⟨α,hA⟩:=hI
   split at hv
   ·rename_i hx
    exact wpR_cond_true (ev_den hA.good hA.fm hx) (ih lv s (.code c1::k) T J L ρ a W hv hL hr ⟨α,hA⟩)
   ·rename_i hx
    exact wpR_cond_false (ev_den hA.good hA.fm hx) (ih lv s (.code c2::k) T J L ρ a W hv hL hr ⟨α,hA⟩)
   ·rename_i i p hx
    split at hv
    ·rename_i hi
     simp only [VC]at hv
     obtain⟨b,hb,hbt,hbf⟩:=hv
     have hx':a.eval x=.bool b:=(ev_den hA.good hA.fm hx).trans hb
     cases b
     ·exact wpR_cond_false hx' (ih lv _ (.code c2::k) T J L ρ a W (cutT_vc (hbf rfl)) hL hr (br_inv ⟨α,hA⟩ hi hb))
     exact wpR_cond_true hx' (ih lv _ (.code c1::k) T J L ρ a W (cutT_vc (hbt rfl)) hL hr (br_inv ⟨α,hA⟩ hi hb))
    simp [VC]at hv
   simp [VC]at hv
  ·-- exit
   rename_i id
   split at hv
   ·rename_i k' hk
    obtain⟨J',h1,h2⟩:=unwind_ok (P:=C.P) (R:=R) hk hr
    exact wpR_exit (h2 a W (ih lv s k' T J' L ρ a W hv hL h1 hI))
   rename_i hun
   split at hv
   ·rename_i k' hk
    obtain⟨J',h1,h2⟩:=leave_exit (P:=C.P) (R:=R) hk hun hr
    obtain⟨e,he,h3⟩:=ih lv s (.jump (.exit id)::k') T J' L ρ a W hv hL h1 hI
    cases he
    exact wpR_exit (h2 a W h3)
   simp [VC]at hv
  ·-- ret
   split at hv
   ·rename_i k' hk
    obtain⟨J',h1,h2⟩:=ret_ok (P:=C.P) (R:=R) hk hr
    exact wpR_ret (h2 a W (ih lv s k' T J' L ρ a W hv hL h1 hI))
   split at hv
   ·rename_i k' hk
    obtain⟨J',h1,h2⟩:=leave_ret (P:=C.P) (R:=R) hk hr
    obtain⟨e,he,h3⟩:=ih lv s (.jump .ret::k') T J' L ρ a W hv hL h1 hI
    cases he
    exact wpR_ret (h2 a W h3)
   simp [VC]at hv
  ·-- a range over a function
   rename_i g ps' assign body
   split at hv
   ·rename_i gf cap hg hpl
    split at hv
    ·rename_i fn hfn hen
     split at hv
     ·rename_i c hbody
      split at hv
      ·rename_i hw
       simp only [Bool.and_eq_true,decide_eq_true_eq]at hw hen
       obtain⟨⟨hw1,hw2⟩,hw3⟩:=hw
       obtain⟨α,hA⟩:=hI
       have hge:=ev_den hA.good hA.fm hg
       have hrn:=rnd_plain (T:=T) hpl
       show wpR (rnd k T) C.P _ _ a W
       rw [hrn]
       refine wpR_range (gf:=gf) (lb:=(denL ρ α cap).toArray) (by rw [hge];simp [V.den,denL]) (fun args w=>enters_run hen.1 _ _) ?_
       intro r q3 q4 q5 q6 q7 q8 q9
       refine calls_of_endR hfn hbody ?_
       have hfree:=freeAt_in hw3
       obtain⟨α',h1,h2,hB⟩:=(hA.room 1).new' (nm:=s.hp.length) (b:=tomb) hfree rfl (W':=W) ⟨W.heap.size+1,undef,[]⟩ fun α' g1 g2 g3 g4=>⟨by rw [chs_new0 (k:=0) hfree.1 rfl,g4];exact(hA.room 1).st,trivial⟩
       have hden:denL ρ α' cap=denL ρ α cap:=denL_eq (hp:=s.ln) (fun n hn=>h2 n (lv_app hn)) (List.prefix_refl _) cap (by rw [← hA.good.len];exact hw2)
       have hlvn:SX.lv ((s.room 1).ln.set s.hp.length (some tomb)) s.hp.length=true:=lv_made hfree
       have hmono:∀ n,SX.lv s.ln n=true→SX.lv ((s.room 1).ln.set s.hp.length (some tomb)) n=true:=fun n hn=>lv_set (lv_app hn)
       have hI':Inv w0 ps (⟨a.tmps,a.defers,some (W.heap.size+1,r)⟩::T) ρ { (s.room 1).make s.hp.length tomb with fr:=(.y s.hp.length::cap).map some++List.replicate (fn.ntmps-(.y s.hp.length::cap:List V).length) (some (.k undef)),stk:=s.fr::s.stk,lps:=(s.hp.length,.ready)::s.lps,cur:=gf }
        { tmps:=(#[Value.func (.yield (W.heap.size+1)) #[] #[]]++(denL ρ α cap).toArray)++Array.replicate (fn.ntmps-(#[Value.func (.yield (W.heap.size+1)) #[] #[]]++(denL ρ α cap).toArray).size) undef,defers:=[] } (rangeW W r):=by
        refine⟨α',⟨nofun,(Lps_some (c:=⟨a.tmps,a.defers,some (W.heap.size+1,r)⟩) rfl).2 ⟨hA.defers.1,⟨hlvn,by rw [h1],q3,q4,q5⟩,hB.defers.2⟩⟩,⟨hA.good.len,hA.good.fit,hA.good.kn⟩,⟨fun v hv'=>?_,fun f hf=>?_,hB.wf.hp,hB.wf.ln⟩,⟨by simp [denL_len];omega,fun d v hd=>?_⟩,⟨hB.fm,hB.fms⟩,?_,hB.rows,hB.lens⟩
        ·rcases List.mem_append.1 hv' with h|h
         ·obtain⟨u,hu,e⟩:=List.mem_map.1 h
          obtain rfl:u=v:=by simpa using e
          rcases List.mem_cons.1 hu with rfl|hu
          ·exact hlvn
          exact V.wf_mono hmono (Nat.le_of_eq hA.good.len) u (wfL_mem hw2 u hu)
         ·have:=List.eq_of_mem_replicate h
          cases this
          rfl
        ·rcases List.mem_cons.1 hf with rfl|hf
         ·exact hB.wf.fr
         exact hB.wf.stk f hf
        ·rw [Array.getElem?_append]
         have hl1:(#[Value.func (.yield (W.heap.size+1)) #[] #[]]++(denL ρ α cap).toArray).size=(V.y s.hp.length::cap).length:=by simp [denL_len,Nat.add_comm]
         rw [hl1]
         by_cases hlt:d<(V.y s.hp.length::cap).length
         ·rw [List.getElem?_append_left (by simpa using hlt),List.getElem?_map,List.getElem?_eq_getElem hlt]at hd
          simp only [Option.map_some,Option.some.injEq]at hd
          rw [if_pos hlt]
          have e2:(#[Value.func (.yield (W.heap.size+1)) #[] #[]]++(denL ρ α cap).toArray)=(denL ρ α' (.y s.hp.length::cap)).toArray:=by
           apply Array.ext'
           simp [denL,V.den,h1,hden]
          rw [e2]
          simpa using denL_at (ρ:=ρ) (α:=α') (l:=.y s.hp.length::cap) (by rw [List.getElem?_eq_getElem hlt,hd])
         rw [List.getElem?_append_right (by simpa using hlt),List.getElem?_replicate]at hd
         rw [if_neg hlt,Array.getElem?_replicate]
         simp only [List.length_map]at hd
         split at hd
         ·rename_i h9
          rw [if_pos h9]
          cases hd
          rfl
         cases hd
        have hst:=(hB.st.rec_ (.deferred (some []))).rec_ (.loop r)
        have e3:osA { tmps:=(#[Value.func (.yield (W.heap.size+1)) #[] #[]]++(denL ρ α cap).toArray)++Array.replicate (fn.ntmps-(#[Value.func (.yield (W.heap.size+1)) #[] #[]]++(denL ρ α cap).toArray).size) undef,defers:=[] } { (s.room 1).make s.hp.length tomb with fr:=(.y s.hp.length::cap).map some++List.replicate (fn.ntmps-(.y s.hp.length::cap:List V).length) (some (.k undef)),stk:=s.fr::s.stk,lps:=(s.hp.length,.ready)::s.lps,cur:=gf } (⟨a.tmps,a.defers,some (W.heap.size+1,r)⟩::T)=⟨W.heap.size+1,.loop r⟩::⟨W.heap.size,.deferred (some [])⟩::osA a s T:=by
         unfold osA
         rw [loopOs_some rfl]
         simp only [LS.st,LS.pe]
         rw [rec_ready q3 q4,q9]
         rfl
        rw [e3]
        have e4:(W.alloc (.deferred (some []))).heap.size=W.heap.size+1:=by simp
        rw [e4]at hst
        exact hst
       have h:=ih lv _ (.code c::.endl fn s.cur ps' assign body::k) (⟨a.tmps,a.defers,some (W.heap.size+1,r)⟩::T) J L ρ _ _ hv hL ⟨⟨_,_,rfl,q6,q7,q8⟩,hrn,hr⟩ hI'
       have h:wpR none C.P c (wpK C.P R (.endl fn s.cur ps' assign body::k) (⟨a.tmps,a.defers,some (W.heap.size+1,r)⟩::T) J) _ _:=h
       have e5:markA r.defers { tmps:=(TF.mk a.tmps a.defers (some (W.heap.size+1,r))).t,defers:=(TF.mk a.tmps a.defers (some (W.heap.size+1,r))).ds }=markA W.heap.size a:=by rw [q9]
       refine wpR_mono h fun e a' w' hq=>?_
       cases e with
       | normal =>
        obtain⟨w2,v,t1,t2,l,r',v',st,pe,t3,t4,t5,t6,t7⟩:=hq
        cases t3
        rw [e5]at t7
        exact⟨w2,v,t1,t2,v',st,pe,t4,t5,t6,t7⟩
       | ret =>
        obtain⟨w2,v,t1,t2,l,r',v',st,pe,t3,t4,t5,t6,t7⟩:=hq
        cases t3
        rw [e5]at t7
        exact⟨w2,v,t1,t2,v',st,pe,t4,t5,t6,t7⟩
       | exit id=>exact hq
       | goto t=>exact hq
       | panic c=>exact hq
       | outgrown=>exact hq
      simp [VC]at hv
     simp [VC]at hv
    simp [VC]at hv
   simp [VC]at hv
  ·-- loop
   rename_i c
   split at hv
   ·exact wpR_loop_rounds _ (ih lv s (.rounds c G.rounds::k) T J L ρ a W hv hL hr hI)
   rename_i an _
   refine settle_ok hps an.pos s ρ _ hv hI fun s ρ' hv hρ hI=>?_
   replace hr:=hr.mono hρ (List.prefix_refl L)
   clear hρ
   split at hv
   ·rename_i vals hvals
    split at hv
    ·rename_i hc
     simp only [Bool.and_eq_true]at hc
     simp only [VC]at hv
     obtain⟨α,hA⟩:=hI
     obtain⟨hf,hfit⟩:=fresh_inv (an:=an) (ws:=written c) hA (List.prefix_refl _) hA.good hA.wf (Match.refl _ _ _ hA.live hA.defers.2.ok) hvals hc.2
     rcases hv with ⟨I,μ,h0,hround⟩|⟨hcw,I,μ,h0,hround⟩
     ·refine wpR_loop_ghost (γ:=List Value) (fun xs a W=>I xs∧Sh.fitL (an.pos.map fun e=>e.2.sh) xs=true∧Inv w0 ps T (ρ'++xs) (freshS an (written c) s) a W) μ (denL ρ' α vals) ⟨h0 α,hfit,hf⟩ ?_
      intro xs a' W' ⟨hIx,hfx,hInv⟩
      exact ih (lv+1) (freshS an (written c) s) (.code c::.again lv an (written c) s::k) T
       ((fun a' w'=>∃ g',(I g'∧Sh.fitL (an.pos.map fun e=>e.2.sh) g'=true∧Inv w0 ps T (ρ'++g') (freshS an (written c) s) a' w')∧μ g'<μ xs)::J)
       (L++[fun(_:Cx) (ys:List Value)=>I ys∧μ ys<μ xs]) (ρ'++xs) a' W' (hround xs hfx hIx) (by simp [hL])
       ⟨⟨ρ',(fun(_:Cx) (ys:List Value)=>I ys∧μ ys<μ xs),ps,fun _ h=>h,by rw [← hL];simp,⟨xs,rfl⟩,hA.good,hA.wf,hA.live,hA.defers.2.ok,fun C' ps' ys a2 W2 _ hsub hys hyf hyI=>⟨ys,⟨hys.1,hyf,hyI.sub hsub⟩,hys.2⟩⟩,hr.mono ⟨xs,rfl⟩ ⟨_,rfl⟩⟩ hInv
     obtain⟨N0,hsub0,hI0⟩:=h0 α
     have hf':Inv w0 (Kf (C.plus N0)::NF (C.plus N0)::ps) T (ρ'++denL ρ' α vals) (freshS an (written c) s) a W:=by
      obtain⟨α2,hA2⟩:=hf
      exact⟨α2,hA2.plus hps fun W' hW y hy=>hps.lasts hA2 W' hW y (hsub0 y hy)⟩
     refine wpR_loop_ghost (γ:=List Value×List Arg) (fun g a W=>I g.1 g.2∧Sh.fitL (an.pos.map fun e=>e.2.sh) g.1=true∧Inv w0 (Kf (C.plus g.2)::NF (C.plus g.2)::ps) T (ρ'++g.1) (freshS an (written c) s) a W) (fun g=>μ g.1) (denL ρ' α vals,N0) ⟨hI0,hfit,hf'⟩ ?_
     intro ⟨xs,N⟩ a' W' ⟨hIx,hfx,hInv⟩
     exact hN hcw N _ w0 T0 R G (lv+1) (freshS an (written c) s) (.code c::.again lv an (written c) s::k) T
      ((fun a' w'=>∃ g':List Value×List Arg,(I g'.1 g'.2∧Sh.fitL (an.pos.map fun e=>e.2.sh) g'.1=true∧Inv w0 (Kf (C.plus g'.2)::NF (C.plus g'.2)::ps) T (ρ'++g'.1) (freshS an (written c) s) a' w')∧μ g'.1<μ xs)::J)
      (L++[fun(C':Cx) (ys:List Value)=>C'.nb=C.nb∧∃ N':List Arg,(∀ y∈N',y∈C'.N)∧I ys N'∧μ ys<μ xs]) (ρ'++xs) a' W' hk12 (hps.plus N) (by rw [run_plus C];exact hround xs N hfx hIx) (by simp [hL])
      ⟨⟨ρ',(fun(C':Cx) (ys:List Value)=>C'.nb=C.nb∧∃ N':List Arg,(∀ y∈N',y∈C'.N)∧I ys N'∧μ ys<μ xs),ps,(fun p hp=>List.mem_cons_of_mem _ (List.mem_cons_of_mem _ hp)),by rw [← hL];simp,⟨xs,rfl⟩,hA.good,hA.wf,hA.live,hA.defers.2.ok,fun C' ps' ys a2 W2 hc' hsub ⟨hnb,N',hN',hys,hμ⟩ hyf hyI=>⟨(ys,N'),⟨hys,hyf,by
       obtain⟨α3,h3⟩:=hyI
       refine⟨α3,(h3.more fun p hp=>.inl (hsub p hp)).plus hps fun W3 hW3 y hy=>?_⟩
       have:=hc'.lasts h3 W3 hW3 y (hN' y hy)
       exact⟨this.1,by rw [← hnb];exact this.2⟩⟩,hμ⟩⟩,(hr.mono ⟨xs,rfl⟩ ⟨_,rfl⟩).psm fun p hp=>List.mem_cons_of_mem _ (List.mem_cons_of_mem _ hp)⟩ hInv
    simp [VC]at hv
   simp [VC]at hv
  ·-- region
   rename_i id ops
   have:=ih lv s (.ops ops ops.toList::k) T J L ρ a W hv hL hr hI
   exact wpR_region this
  ·-- a region that draws its order
   rename_i id ops
   split at hv
   ·-- a row is written no more
    rename_i n0 hz
    obtain⟨h12,b,sz,hn0,hbk⟩:=frzR_eq hz
    obtain⟨α,hA⟩:=hI
    exact ih lv _ (.code (.region id ops true)::k) T J L ρ a W hv hL hr ⟨α,hA.freezeR (hk12 h12) hn0 hbk⟩
   split at hv
   ·rename_i hmix
    obtain⟨α,hA⟩:=hI
    refine plan_ok (base:=s.hp.length) (s0:=s.room ops.size) (ρ0:=ρ) hC hps ih0 (by show 1≠12;decide) hmix ⟨α,hA.room _⟩ (fun s' ρ' h1 h2 a' W' h3=>?_) (fun s' ρ' l h1 h2=>by
     split at h1
     ·rename_i hnj
      exact⟨wpK_panic hnj,fun a' W' ⟨α',h3⟩=>ih lv _ (.ops ops l::k) T J L ρ' a' W' h1 hL (hr.mono h2 (List.prefix_refl _)) ⟨α',h3.trim _ _⟩⟩
     simp [VC]at h1) (4*ops.size+20) (s.room ops.size) [] ops.toList [] ρ (by simp) rfl (List.prefix_refl _) hv ⟨hA.good.len,hA.good.fit,hA.good.kn⟩ rfl (fun i o d h=>by simp at h)
    obtain⟨α',h3⟩:=h3
    exact ih lv _ k T J L ρ' a' W' h1 hL (hr.mono h2 (List.prefix_refl _)) ⟨α',h3.trim _ _⟩
   simp [VC]at hv
  simp [VC]at hv
 ·-- no operation is left
  rename_i all k
  exact ih lv s k T J L ρ a W hv hL hr hI
 -- an operation
 rename_i all o rest k
 have hrest:∀ s' ρ' a' W',VC C w0 ps T0 R L ρ' (run C G n lv s' (.ops all rest::k))→ρ<+:ρ'→Inv w0 ps T ρ' s' a' W'→wpLR (rnd k T) C.P all (wpK C.P R k T J) rest a' W':=fun s' ρ' a' W' h1 h2 h3=>ih lv s' (.ops all rest::k) T J L ρ' a' W' h1 hL (hr.mono h2 (List.prefix_refl _)) h3
 have hself:∀ s' ρ',VC C w0 ps T0 R L ρ' (run C G n lv s' (.ops all (o::rest)::k))→ρ<+:ρ'→Inv w0 ps T ρ' s' a W→wpLR (rnd k T) C.P all (wpK C.P R k T J) (o::rest) a W:=fun s' ρ' h1 h2 h3=>ih lv s' (.ops all (o::rest)::k) T J L ρ' a W h1 hL (hr.mono h2 (List.prefix_refl _)) h3
 have hskip:VC C w0 ps T0 R L ρ (run C G n lv (s.put o.dst (.k undef)) (.ops all rest::k))→Region.wanted o (yielded all a.tmps)=false→wpLR (rnd k T) C.P all (wpK C.P R k T J) (o::rest) a W:=fun h1 h2=>wpLR_skip h2 (hrest _ ρ _ _ h1 (List.prefix_refl _) (skip_inv hI _))
 dsimp only at hv
 show wpLR (rnd k T) C.P all (wpK C.P R k T J) (o::rest) a W
 split at hv
 ·rename_i hg
  exact go_ok hC hps hk12 hI (by simp [Region.wanted,hg]) hrest hself ih hN hL hr hv
 rename_i g want hg
 split at hv
 ·simp [VC]at hv
 rename_i d hd
 obtain⟨α,hA⟩:=hI
 split at hv
 ·rename_i u hl
  exact hskip hv (wanted_no hA hg hd hl)
 ·rename_i b hl
  have hwa:=wanted_of hA hg hd hl
  split at hv
  ·rename_i hb
   exact go_ok hC hps hk12 ⟨α,hA⟩ (hwa.trans hb) hrest hself ih hN hL hr hv
  rename_i hb
  exact hskip hv (hwa.trans (by simpa using hb))
 ·rename_i i p hl
  split at hv
  ·rename_i hi
   simp only [VC]at hv
   obtain⟨b,hb,hbt,hbf⟩:=hv
   cases b
   ·exact hself _ ρ (cutT_vc (hbf rfl)) (List.prefix_refl _) (br_inv ⟨α,hA⟩ hi hb)
   exact hself _ ρ (cutT_vc (hbt rfl)) (List.prefix_refl _) (br_inv ⟨α,hA⟩ hi hb)
  simp [VC]at hv
 simp [VC]at hv
theorem run_all:∀ (n:Nat)(C:Cx)(ps:List (World→Prop)),C.Ok→RunOk C ps n
 | 0,_,_,_=>run_zero
 | n+1,C,ps,hC=>run_step hC (run_all n C ps hC) fun hw N ps'=>run_all n (C.plus N) ps' (hC.plus hw N)
theorem run_ok(hC:C.Ok)(n:Nat):RunOk C ps n:=run_all n C ps hC
end
end SX
namespace SX
theorem Kf_none{C:Cx}(h:∀ s sz cells,¬ C.K s sz cells)(W:World):Kf C W:=fun s sz cells hk=>(h s sz cells hk).elim
theorem fitL_get{sh:List Sh}{ρ:List Value}(h:Sh.fitL sh ρ=true):sh.length=ρ.length∧∀ (i:Nat)(s:Sh),sh[i]?=some s→s.fit (ρ.getD i undef)=true:=by
 refine⟨?_,fun i s hs=>?_⟩
 ·induction sh generalizing ρ with
  | nil=>cases ρ<;>simp [Sh.fitL]at h ⊢
  | cons s l ih=>cases ρ with
   | nil=>simp [Sh.fitL]at h
   | cons v r =>
    simp only [Sh.fitL,Bool.and_eq_true]at h
    simp [ih h.2]
 obtain⟨v,h1,h2⟩:=fitL_at h hs
 rw [List.getD_eq_getElem?_getD,h1]
 exact h2
mutual
def Tree.strip:Tree→Tree
 | .df q a s t=>.df q a s t.strip
 | .br i p t e=>.br i p t.strip e.strip
 | .sp i p l=>.sp i p (stripL l)
 | .ret v hp stk=>.ret v hp stk
 | .loop v s t=>.loop v s t.strip
 | .again l v=>.again l v
 | .bad n _=>.bad n []
def stripL:List Tree→List Tree
 | []=>[]
 | t::l=>t.strip::stripL l
end
theorem stripL_len:∀ l:List Tree,(stripL l).length=l.length
 | []=>rfl
 | _::l=>by simp [stripL,stripL_len l]
section
variable {w0:Org}{T0:List TF}{R:Ending→World→Prop}
mutual
theorem VC_strip:∀ (t:Tree){C:Cx}{ps:List (World→Prop)}(L:List (Cx→List Value→Prop))(ρ:List Value),VC C w0 ps T0 R L ρ t.strip→VC C w0 ps T0 R L ρ t
 | .df q a s t,C,ps,L,ρ,h=>by
  simp only [Tree.strip,VC]at h ⊢
  rcases h with ⟨v,h1,h2,h3⟩|⟨hc,Q,h1,h2⟩
  ·exact .inl ⟨v,h1,h2,VC_strip t _ _ h3⟩
  exact .inr ⟨hc,Q,h1,fun v N h3 h4=>VC_strip t _ _ (h2 v N h3 h4)⟩
 | .br i p t e,C,ps,L,ρ,h=>by
  simp only [Tree.strip,VC]at h ⊢
  obtain⟨b,h1,h2,h3⟩:=h
  exact⟨b,h1,fun hb=>VC_strip t _ _ (h2 hb),fun hb=>VC_strip e _ _ (h3 hb)⟩
 | .sp i p l,C,ps,L,ρ,h=>by
  simp only [Tree.strip,VC,stripL_len]at h ⊢
  exact⟨h.1,VCs_strip l _ _ _ _ h.2⟩
 | .ret v hp stk,C,ps,L,ρ,h=>h
 | .loop v s t,C,ps,L,ρ,h=>by
  simp only [Tree.strip,VC]at h ⊢
  rcases h with ⟨I,μ,h1,h2⟩|⟨hc,I,μ,h1,h2⟩
  ·exact .inl ⟨I,μ,h1,fun xs h3 h4=>VC_strip t _ _ (h2 xs h3 h4)⟩
  exact .inr ⟨hc,I,μ,h1,fun xs N h3 h4=>VC_strip t _ _ (h2 xs N h3 h4)⟩
 | .again l v,C,ps,L,ρ,h=>h
 | .bad n o,C,ps,L,ρ,h=>by simp [Tree.strip,VC]at h
theorem VCs_strip:∀ (l:List Tree){C:Cx}{ps:List (World→Prop)}(L:List (Cx→List Value→Prop))(ρ:List Value)(u:Value)(j:Nat),VCs C w0 ps T0 R L ρ u j (stripL l)→VCs C w0 ps T0 R L ρ u j l
 | [],C,ps,L,ρ,u,j,h=>by unfold VCs;trivial
 | t::l,C,ps,L,ρ,u,j,h=>by
  simp only [stripL,VCs]at h ⊢
  exact⟨fun hu=>VC_strip t _ _ (h.1 hu),VCs_strip l _ _ _ _ h.2⟩
end
end
theorem calls_of_run{C:Cx}{G:Cfg}{R:Ending→World→Prop}{f:FuncId}{fn:Func}{body:Code}{args:List V}{sh:List Sh}{ρ:List Value}{w:World}{vals:Array Value}(n:Nat)(t:Tree)(hC:C.Ok)(hf:C.P.funcs[f]?=some fn)(hb:fn.body=some body)(ht:(run C G n 0 (door f fn args sh) [.code body,.top fn]).strip=t)
 (hd:doorOk fn args sh=true) (hfit:Sh.fitL sh ρ=true) (hvals:(denL ρ (fun _=>default) args).toArray=vals) (hK:∀ W',Same [] w W'→Kf C W') (hv:VC C ⟨w,[],Af C,Bf C⟩ [Kf C] [] R [] ρ t) (hN:C.N=[]∧C.nb≤w.heap.size:=by exact⟨rfl,Nat.zero_le _⟩):Calls C.P f vals w R:=by
 subst ht
 subst hvals
 replace hv:=VC_strip _ _ _ hv
 refine calls_of_endR hf hb ?_
 simp only [doorOk,Bool.and_eq_true,decide_eq_true_eq]at hd
 obtain⟨hl,hg⟩:=fitL_get hfit
 have hI:Inv ⟨w,[],Af C,Bf C⟩ [Kf C] [] ρ (door f fn args sh) { tmps:=(denL ρ (fun _=>default) args).toArray++Array.replicate (fn.ntmps-(denL ρ (fun _=>default) args).toArray.size) undef,defers:=[] } w:=by
  refine⟨fun _=>default,⟨nofun,rfl⟩,⟨hl,hg,fun e he=>nomatch he⟩,⟨fun v hv'=>?_,fun f hf=>(nomatch hf),(fun b hb=>nomatch hb),(fun b hb=>nomatch hb)⟩,⟨by simp [door,denL_len],fun d v hd'=>?_⟩,trivial,?_,?_,?_⟩
  ·rcases List.mem_append.1 hv' with h|h
   ·obtain⟨u,hu,e⟩:=List.mem_map.1 h
    obtain rfl:u=v:=by simpa using e
    rw [← hl]
    exact wfL_mem hd.2 u hu
   ·have:=List.eq_of_mem_replicate h
    cases this
    rfl
  ·rw [Array.getElem?_append]
   simp only [List.size_toArray,denL_len]
   simp only [door]at hd'
   by_cases hlt:d<args.length
   ·rw [List.getElem?_append_left (by simpa using hlt),List.getElem?_map,List.getElem?_eq_getElem hlt]at hd'
    simp only [Option.map_some,Option.some.injEq]at hd'
    rw [if_pos hlt]
    simpa using denL_at (ρ:=ρ) (α:=fun _=>default) (by rw [List.getElem?_eq_getElem hlt,hd'])
   rw [List.getElem?_append_right (by simpa using hlt),List.getElem?_replicate]at hd'
   rw [if_neg hlt,Array.getElem?_replicate]
   simp only [List.length_map]at hd'
   split at hd'
   ·rename_i h9
    rw [if_pos h9]
    cases hd'
    rfl
   cases hd'
  ·exact((⟨⟨rfl,rfl,rfl,Nat.le_refl _,fun _ _ _=>rfl⟩,(fun _ h=>nomatch h),(fun _ h=>nomatch h),(by simp [muts]),(fun _ h=>nomatch h)⟩:St ⟨w,[],Af C,Bf C⟩ [] [] [] w)).keep0 hK
  ·exact fun n b h=>nomatch h
  exact fun n b h=>nomatch h
 have:=run_ok hC n ⟨w,[],Af C,Bf C⟩ [] R G 0 (door f fn args sh) [.code body,.top fn] [] [] [] ρ _ w (fun _=>rfl) ⟨List.mem_cons_self ..,fun _ h=>h,fun _ h=>h,hN.2,.inl hN.1⟩ hv rfl rfl hI
 exact this
def Ret(w:World)(u:Value)(e:Ending)(w':World):Prop:=e=.returned u∧Below w.heap.size w w'
theorem St.ret{w:World}{rt:World→Prop}{rf:Nat→Prop}{hs:List Ch}{os:List Ow}{ps:List (World→Prop)}{W:World}{u v:Value}(h:St ⟨w,[],rt,rf⟩ hs os ps W)(hu:v=u):Ret w u (.returned v) W:=⟨by rw [hu],h.below⟩
end SX
theorem wrap_i64{x:Int}(h1 : -9223372036854775808≤x)(h2:x≤9223372036854775807):IntKind.i64.wrap x=x:=by
 rw [IntKind.wrap_i64];omega
theorem wrap_u64{x:Int}(h1:0≤x)(h2:x≤18446744073709551615):IntKind.u64.wrap x=x:=by
 simp only [IntKind.wrap,IntKind.signed,IntKind.bits];simp;omega
namespace SX
section
variable {C:Cx}{w0:Org}{ps:List (World→Prop)}{T0:List TF}{R:Ending→World→Prop}{L:List (Cx→List Value→Prop)}{ρ:List Value}
theorem VC_df{q:Opq}{args:List V}{sh:Sh}{t:Tree}(v:Value)(h:∀ α,q.rel C ρ α args v)(hf:sh.fit v=true)(k:VC C w0 ps T0 R L (ρ++[v]) t):VC C w0 ps T0 R L ρ (.df q args sh t):=by
 unfold VC;exact .inl ⟨v,h,hf,k⟩
theorem VC_br{i:Nat}{p:List Nat}{t e:Tree}(b:Bool)(h:p.foldl comp (ρ.getD i undef)=.bool b)(ht:b=true→VC C w0 ps T0 R L ρ t)(he:b=false→VC C w0 ps T0 R L ρ e):VC C w0 ps T0 R L ρ (.br i p t e):=by
 unfold VC;exact⟨b,h,ht,he⟩
theorem VC_ret{v:V}{hp:List (Option Blk)}{stk:List (List (Option V))}(h:∀ α W,Fms ρ α stk T0→(∀ (n:Nat)(b:Blk),hp[n]?=some (some b)→b.rowOk ρ α n)→St w0 (chs ρ α 0 hp) [] (exs w0 ρ α 0 hp++ps) W→R (.returned (v.den ρ α)) W):VC C w0 ps T0 R L ρ (.ret v hp stk):=by
 unfold VC;exact h
theorem VC_loop{vals:List V}{shs:List Sh}{t:Tree}(I:List Value→Prop)(μ:List Value→Nat)(h0:∀ α,I (denL ρ α vals))(h:∀ xs,Sh.fitL shs xs=true→I xs→VC C w0 ps T0 R (L++[fun(_:Cx)(ys:List Value)=>I ys∧μ ys<μ xs]) (ρ++xs) t):VC C w0 ps T0 R L ρ (.loop vals shs t):=by
 unfold VC;exact .inl ⟨I,μ,h0,h⟩
theorem VC_loopN{vals:List V}{shs:List Sh}{t:Tree}(I:List Value→List Arg→Prop)(μ:List Value→Nat)(hc:∀ f,C.cw f=none)(h0:∀ α,∃ N,(∀ y∈N,y∈C.N)∧I (denL ρ α vals) N)(h:∀ xs N,Sh.fitL shs xs=true→I xs N→VC (C.plus N) w0 (Kf (C.plus N)::NF (C.plus N)::ps) T0 R (L++[fun(C':Cx)(ys:List Value)=>C'.nb=C.nb∧∃ N':List Arg,(∀ y∈N',y∈C'.N)∧I ys N'∧μ ys<μ xs]) (ρ++xs) t):VC C w0 ps T0 R L ρ (.loop vals shs t):=by
 unfold VC;exact .inr ⟨hc,I,μ,h0,h⟩
theorem VC_dn{q:Opq}{args:List V}{sh:Sh}{t:Tree}(Q:Value→List Arg→Prop)(hc:∀ f,C.cw f=none)(h:∀ α,q.relN C ρ α args Q)(k:∀ v N,sh.fit v=true→Q v N→VC (C.plus (N++C.N)) w0 (Kf (C.plus (N++C.N))::NF (C.plus (N++C.N))::ps) T0 R L (ρ++[v]) t):VC C w0 ps T0 R L ρ (.df q args sh t):=by
 unfold VC;exact .inr ⟨hc,Q,h,k⟩
theorem VC_again{l:Nat}{vals:List V}(h:∀ α,(L.getD l fun(_:Cx)(_:List Value)=>False) C (denL ρ α vals)):VC C w0 ps T0 R L ρ (.again l vals):=by
 unfold VC;exact h
theorem D{q:Opq}{args:List V}{sh:Sh}{t:Tree}(v:Value)(k:VC C w0 ps T0 R L (ρ++[v]) t)(h:∀ α,q.rel C ρ α args v:=by intro α;show _=_;kernel_rfl) (hf:sh.fit v=true:=by kernel_rfl):VC C w0 ps T0 R L ρ (.df q args sh t):=VC_df v h hf k
theorem E{q:Opq}{args:List V}{sh:Sh}{t:Tree}(v:Value)(h:∀ α,q.rel C ρ α args v)(k:VC C w0 ps T0 R L (ρ++[v]) t)(hf:sh.fit v=true:=by kernel_rfl):VC C w0 ps T0 R L ρ (.df q args sh t):=VC_df v h hf k
theorem B{i:Nat}{p:List Nat}{t e:Tree}(b:Bool)(ht:b=true→VC C w0 ps T0 R L ρ t)(he:b=false→VC C w0 ps T0 R L ρ e)(h:p.foldl comp (ρ.getD i undef)=.bool b:=by kernel_rfl):VC C w0 ps T0 R L ρ (.br i p t e):=VC_br b h ht he
theorem VC_sp{i:Nat}{p:List Nat}{l:List Tree}(j:Nat)(hj:j<l.length)(h:p.foldl comp (ρ.getD i undef)=.int .i64 j)(ht:∀ t,l[j]?=some t→VC C w0 ps T0 R L ρ t):VC C w0 ps T0 R L ρ (.sp i p l):=by
 unfold VC
 refine⟨⟨j,hj,h⟩,?_⟩
 rw [h]
 have key:∀ (l:List Tree) (k:Nat),(∀ t m,l[m]?=some t→k+m=j→VC C w0 ps T0 R L ρ t)→VCs C w0 ps T0 R L ρ (.int .i64 (j:Int)) k l:=by
  intro l
  induction l with
  | nil=>intro k _;unfold VCs;trivial
  | cons t l ih =>
   intro k hk
   unfold VCs
   refine⟨fun e=>hk t 0 rfl ?_,ih (k+1) fun t m hm he=>hk t (m+1) (by simpa using hm) (by omega)⟩
   injection e with _ e
   omega
 exact key l 0 fun t m hm he=>ht t (by rw [← hm];congr 1;omega)
end
theorem flat_len{β:Type}{f:β→List Value}{sz:Nat}(hf:∀ a,(f a).length=sz):∀ l:List β,(l.flatMap f).length=l.length*sz
 | []=>by simp
 | a::l=>by simp only [List.flatMap_cons,List.length_append,List.length_cons,flat_len hf l,hf];rw [Nat.add_mul];omega
theorem flat_drop{β:Type}{f:β→List Value}{sz:Nat}(hf:∀ a,(f a).length=sz):∀ (l:List β)(j:Nat),(l.flatMap f).drop (j*sz)=(l.drop j).flatMap f
 | l,0=>by simp
 | [],j+1=>by simp
 | a::l,j+1=>by
  rw [List.flatMap_cons,show(j+1)*sz=(f a).length+j*sz by rw [hf,Nat.add_mul];omega,List.drop_append,List.drop_of_length_le (by omega),List.nil_append,Nat.add_sub_cancel_left,List.drop_succ_cons,← flat_drop hf l j]
theorem flat_take{β:Type}{f:β→List Value}{sz:Nat}(hf:∀ a,(f a).length=sz):∀ (l:List β)(j:Nat),(l.flatMap f).take (j*sz)=(l.take j).flatMap f
 | l,0=>by simp
 | [],j+1=>by simp
 | a::l,j+1=>by
  rw [List.flatMap_cons,show(j+1)*sz=(f a).length+j*sz by rw [hf,Nat.add_mul];omega,List.take_length_add_append,List.take_succ_cons,List.flatMap_cons,← flat_take hf l j]
theorem flat_elem{β:Type}{f:β→List Value}{sz:Nat}(hf:∀ a,(f a).length=sz){l:List β}{j:Nat}{z:β}(hz:l[j]?=some z):(l.flatMap f).drop (j*sz)=f z++(l.drop (j+1)).flatMap f:=by
 rw [flat_drop hf,List.drop_eq_getElem_cons (List.getElem?_eq_some_iff.1 hz).1,List.flatMap_cons,(List.getElem?_eq_some_iff.1 hz).2]
theorem extBnd{C:Cx}{ρ:List Value}{α:Nat→AV}{s i:V}{A:Option Addr}{n c j:Nat}(hA:0<n→A.isSome=true)(hs:s.den ρ α=.slice A n c)(hi:i.den ρ α=.int .i64 (j:Int))(hj:j<n):Opq.rel C ρ α .bnd [s,i] (.bool true):=by
 obtain⟨ad,rfl⟩:=Option.isSome_iff_exists.1 (hA (by omega))
 refine⟨?_,rfl⟩
 rw [hs,hi]
 exact⟨by omega,by omega⟩
theorem extElems{C:Cx}{ρ:List Value}{α:Nat→AV}{s i:V}{A:Option Addr}{n c j sz:Nat}{β:Type}{f:β→List Value}{l:List β}{z:β}(hf:∀ a,(f a).length=sz)(hA:0<n→A.isSome=true)(hs:s.den ρ α=.slice A n c)(hi:i.den ρ α=.int .i64 (j:Int))(hj:j<n)(hK:C.K (.slice A n c) sz (l.flatMap f))(hz:l[j]?=some z):Opq.rel C ρ α (.elems sz 0 sz) [s,i] (.agg (f z).toArray):=by
 refine⟨(extBnd (C:=C) hA hs hi hj).1,l.flatMap f,by rw [hs];exact hK,?_,?_⟩
 ·rw [hi,flat_len hf]
  have h1:(j+1)*sz≤l.length*sz:=Nat.mul_le_mul_right _ (List.getElem?_eq_some_iff.1 hz).1
  rw [Nat.add_mul]at h1
  show(j:Int).toNat*sz+0+sz≤_
  rw [Int.toNat_natCast];omega
 rw [hi]
 show _=Value.agg (((l.flatMap f).drop ((j:Int).toNat*sz+0)).take sz).toArray
 rw [Int.toNat_natCast,Nat.add_zero,flat_elem hf hz,List.take_left' (hf z)]
theorem extElem{C:Cx}{ρ:List Value}{α:Nat→AV}{s i:V}{A:Option Addr}{n c j sz o:Nat}{β:Type}{f:β→List Value}{l:List β}{z:β}{v:Value}(hf:∀ a,(f a).length=sz)(hA:0<n→A.isSome=true)(hs:s.den ρ α=.slice A n c)(hi:i.den ρ α=.int .i64 (j:Int))(hj:j<n)(hK:C.K (.slice A n c) sz (l.flatMap f))(hz:l[j]?=some z)(ho:o<sz)(hv:(f z)[o]?=some v):Opq.rel C ρ α (.elem sz o) [s,i] v:=by
 refine⟨(extBnd (C:=C) hA hs hi hj).1,l.flatMap f,by rw [hs];exact hK,?_⟩
 rw [hi]
 show(l.flatMap f)[(j:Int).toNat*sz+o]?=some v
 rw [Int.toNat_natCast,← List.getElem?_drop,flat_elem hf hz,List.getElem?_append_left (by rw [hf];exact ho),hv]
theorem eqr_rel{C:Cx}{ρ:List Value}{α:Nat→AV}{neq:Bool}{n:Nat}{l:List CK}{vs:List V}{β:Type} [DecidableEq β] {f:β→List Value}(hf:∀ a b,f a=f b→a=b){y z:β}(h:(f y=f z)=(denL ρ α (vs.take n)=denL ρ α (vs.drop n)))(h1:fits l (denL ρ α (vs.take n))=true)(h2:fits l (denL ρ α (vs.drop n))=true):Opq.rel C ρ α (.eqr neq n l) vs (.bool (neq ^^ decide (y=z))) :=
 ⟨decide (y=z),by rw [← h,decide_eq_true_eq];exact⟨fun e=>by rw [e],hf y z⟩,h1,h2,rfl⟩
theorem rd_some{W:World}{sz:Nat}{A:Option Addr}{n:Nat}{xs:List Value}(h:Rd W sz A n xs):0<n→A.isSome=true:=fun hn=>by
 obtain⟨ad,rfl,_⟩:=h.2 hn
 rfl
theorem noAli{C:Cx}{f:FuncId}{rw:List Rw}{as':List Arg}(h:C.ali f=[]):aliRel C f rw as':=fun j hj=>by rw [h]at hj;cases hj
theorem rem_nat{a b:Nat}(h:0<b):binV .rem (.int .i64 (a:Int)) (.int .i64 (b:Int))=some (.int .i64 ((a % b:Nat):Int)):=by
 have hb:¬ ((b:Int)=0):=by omega
 have e:((a % b:Nat):Int)=(a:Int).tmod b:=by
  rw [Int.tmod_eq_emod_of_nonneg (by omega)];rfl
 simp only [binV]
 rw [if_pos trivial,if_neg hb,e]
theorem ret_of{w:World}{rt:World→Prop}{rf:Nat→Prop}{hs:List Ch}{os:List Ow}{ps:List (World→Prop)}{W:World}{u v x:Value}(h:St ⟨w,[],rt,rf⟩ hs os ps W)(hu:Ending.returned v=.returned x)(hx:x=u):Ending.returned v=.returned u∧Below w.heap.size w W:=⟨hu.trans (by rw [hx]),h.below⟩
theorem F{C:Cx}{w:World}{rt:World→Prop}{rf:Nat→Prop}{ps:List (World→Prop)}{T0:List TF}{L:List (Cx→List Value→Prop)}{ρ:List Value}{v:V}{hp:List (Option Blk)}{stk:List (List (Option V))}{u:Value}(x:Value)(hx:x=u)(hu:∀ α,Ending.returned (v.den ρ α)=.returned x:=by intro α;kernel_rfl):VC C ⟨w,[],rt,rf⟩ ps T0 (fun e w'=>e=.returned u∧Below w.heap.size w w') L ρ (.ret v hp stk):=VC_ret fun α W _ _ hS=>ret_of hS (hu α) hx
theorem W{v:Option Value}(x:Int)(h:v=some (.int .i64 (IntKind.i64.wrap x)):=by kernel_rfl) (h1 : -9223372036854775808≤x:=by omega) (h2:x≤9223372036854775807:=by omega):v=some (.int .i64 x):=h.trans (by rw [wrap_i64 h1 h2])
theorem W1(i:Nat){v:Option Value}(h:v=some (.int .i64 (IntKind.i64.wrap ((i:Int)+1))):=by kernel_rfl) (hb:(i:Int)<9223372036854775807:=by omega):v=some (.int .i64 ((i+1:Nat):Int)):=h.trans (by rw [show((i+1:Nat):Int)=(i:Int)+1 by omega,wrap_i64 (by omega) (by omega)])
def V.q(i:Nat):V:=.x i []
def V.i(n:Int):V:=.k (.int .i64 n)
def Y(i a n:Nat):List V:=(List.range n).map fun j=>.x i [a+j]
def Z(a n:Nat):List V:=(List.range n).map fun j=>.x (a+j) []
end SX
theorem LL:(∀ {α:Type}(a b:List α),(a++b).length=a.length+b.length)∧(∀ {α:Type}(i:Nat)(l:List α),(l.take i).length=min i l.length)∧(∀ {α:Type}(i:Nat)(l:List α),(l.drop i).length=l.length-i)∧(∀ {α:Type}(a:α)(l:List α),(a::l).length=l.length+1)∧(∀ {α:Type},([]:List α).length=0) :=
 ⟨fun _ _=>List.length_append,fun _ _=>List.length_take,fun _ _=>List.length_drop,fun _ _=>List.length_cons,List.length_nil⟩
theorem NRM:(∀ b:Bool,(true != b) = !b)∧(∀ b:Bool,(false != b)=b)∧(∀ b:Bool,(true ^^ b) = !b)∧(∀ b:Bool,(false ^^ b)=b)∧(∀ b:Bool,((!b)=true)=(b=false))∧(∀ b:Bool,((!b)=false)=(b=true))∧(∀ (p:Prop) [Decidable p],(decide p=true)=p)∧(∀ (p:Prop) [Decidable p],(decide p=false)=¬ p)∧(∀ {α:Type} [BEq α] [LawfulBEq α] (a b:α),((a == b)=true)=(a=b))∧(∀ {α:Type} [BEq α] [LawfulBEq α] (a b:α),((a != b)=true)=(a≠b))∧(∀ {α:Type}(a b:α),(a≠b)=¬ (a=b))∧(∀ {α:Type} [BEq α] [LawfulBEq α] (a b:α),((a == b)=false)=(a≠b))∧(∀ {α:Type} [BEq α] [LawfulBEq α] (a b:α),((a != b)=false)=(a=b))∧(∀ {a b:Int},(¬ a<b)=(b≤a))∧(∀ {a b:Int},(¬ a≤b)=(b<a))∧(∀ {α:Type} [LT α] (a b:α),(a>b)=(b<a))∧(∀ {α:Type} [LE α] (a b:α),(a≥b)=(b≤a)) :=
 ⟨by simp,by simp,by simp,by simp,by simp,by simp,fun p _=>by simp,fun p _=>by simp,by intros;simp,by intros;simp,by intros;simp,by intros;simp,by intros;simp,by intros;simp [Int.not_lt],by intros;simp [Int.not_le],by intros;rfl,by intros;rfl⟩
def okR(n d:Int):Prop:=1≤d∧d≤1073741824∧-1073741824≤n∧n≤1073741824∧Nat.gcd n.natAbs d.toNat=1
instance (n d:Int):Decidable (okR n d):=by unfold okR;infer_instance
theorem okR_iff{n d:Int}:okR n d↔1≤d∧d≤1073741824∧-1073741824≤n∧n≤1073741824∧Nat.gcd n.natAbs d.toNat=1:=Iff.rfl
noncomputable def cx0(K A:Value→Nat→List Value→Prop):SX.Cx:={ P:=Try.prog,R:=fun _ _ _ _=>False,shp:=fun _=>none,K:=K,A:=A }
theorem cx0_ok(K A:Value→Nat→List Value→Prop):(cx0 K A).Ok:=SX.Cx.ok_of (fun _=>rfl) fun _ f xs v W h=>h.elim
def tree_size:SX.Tree :=
(.df (.bin .lss 3) [(.q 0),(.i 0)] .one
(.br 1 []
(.df .neg [(.q 0)] .one
(.ret (.q 2) [] []))
(.ret (.q 0) [] [])))
def args_size:List SX.V:=[.x 0 []]
set_option maxRecDepth 100000 in
theorem run_size(K A:Value→Nat→List Value→Prop):(SX.run (cx0 K A) ⟨fun _=>false,[],0,100⟩ 100000 0 (SX.door 119 Try.f119 args_size [.one]) [.code (Try.f119.body.getD .skip),.top Try.f119]).strip=tree_size:=by kernel_rfl
set_option maxRecDepth 100000 in
set_option maxHeartbeats 4000000 in
theorem size_any(n:Int)(w:World)(h1 : -1073741824≤n)(h2:n≤1073741824):Calls Try.prog 119 #[.int .i64 n] w fun e w'=>e=.returned (.int .i64 n.natAbs)∧Below w.heap.size w w':=by
 refine SX.calls_of_run (C:=cx0 (fun _ _ _=>False) (fun _ _ _=>False)) (G:=⟨fun _=>false,[],0,100⟩) (args:=args_size) (sh:=[.one]) (ρ:=[.int .i64 n]) 100000 tree_size (cx0_ok _ _) Try.func119 rfl (run_size _ _) (by kernel_rfl) (by kernel_rfl) (by kernel_rfl) ?_ ?_
 ·exact fun W _=>SX.Kf_none (fun _ _ _ h=>h) W
 unfold tree_size
 refine SX.D (.bool (decide (n<0))) ?_
 refine SX.B (decide (n<0)) (fun h1=>?_) (fun h1=>?_)
 ·try simp only [NRM]at h1
  refine SX.E (.int .i64 (-n)) (fun α=>SX.W (-n)) ?_
  exact SX.F (.int .i64 (-n)) (by congr 1;omega)
 try simp only [NRM]at h1
 exact SX.F (.int .i64 n) (by congr 1;omega)
def tree_mag:SX.Tree :=
(.df (.bin .lss 3) [(.q 0),(.i 0)] .one
(.br 1 []
(.df (.conv .u64) [(.q 0)] .one
(.df .neg [(.q 2)] .one
(.ret (.q 3) [] [])))
(.df (.conv .u64) [(.q 0)] .one
(.ret (.q 2) [] []))))
def args_mag:List SX.V:=[.x 0 []]
set_option maxRecDepth 100000 in
theorem run_mag(K A:Value→Nat→List Value→Prop):(SX.run (cx0 K A) ⟨fun _=>false,[],0,100⟩ 100000 0 (SX.door 100 Try.f100 args_mag [.one]) [.code (Try.f100.body.getD .skip),.top Try.f100]).strip=tree_mag:=by kernel_rfl
set_option maxRecDepth 100000 in
set_option maxHeartbeats 4000000 in
theorem mag_any(n:Int)(w:World)(h1 : -4611686018427387904≤n)(h2:n≤4611686018427387904):Calls Try.prog 100 #[.int .i64 n] w fun e w'=>e=.returned (.int .u64 n.natAbs)∧Below w.heap.size w w':=by
 refine SX.calls_of_run (C:=cx0 (fun _ _ _=>False) (fun _ _ _=>False)) (G:=⟨fun _=>false,[],0,100⟩) (args:=args_mag) (sh:=[.one]) (ρ:=[.int .i64 n]) 100000 tree_mag (cx0_ok _ _) Try.func100 rfl (run_mag _ _) (by kernel_rfl) (by kernel_rfl) (by kernel_rfl) ?_ ?_
 ·exact fun W _=>SX.Kf_none (fun _ _ _ h=>h) W
 unfold tree_mag
 refine SX.D (.bool (decide (n<0))) ?_
 refine SX.B (decide (n<0)) (fun h1=>?_) (fun h1=>?_)
 ·try simp only [NRM]at h1
  refine SX.D (.int .u64 (IntKind.u64.wrap n)) ?_
  refine SX.D (.int .u64 (IntKind.u64.wrap (-(IntKind.u64.wrap n)))) ?_
  exact SX.F (.int .u64 (IntKind.u64.wrap (-(IntKind.u64.wrap n)))) (by congr 1;simp only [IntKind.wrap,IntKind.signed,IntKind.bits];simp;omega)
 try simp only [NRM]at h1
 refine SX.D (.int .u64 (IntKind.u64.wrap n)) ?_
 exact SX.F (.int .u64 (IntKind.u64.wrap n)) (by congr 1;simp only [IntKind.wrap,IntKind.signed,IntKind.bits];simp;omega)
def tree_rdiv:SX.Tree :=
(.loop [(.q 0),(.q 1)] [.one,.one]
(.df (.bin .gtr 3) [(.q 3),(.i 0)] .one
(.br 4 []
(.df (.bin .rem 3) [(.q 2),(.q 3)] .one
(.again 0 [(.q 3),(.q 5)]))
(.ret (.q 2) [] []))))
def args_rdiv:List SX.V:=[.x 0 [],.x 1 []]
set_option maxRecDepth 100000 in
theorem run_rdiv(K A:Value→Nat→List Value→Prop):(SX.run (cx0 K A) ⟨fun _=>false,[⟨118,1,[(.s 0,.one),(.s 1,.one)]⟩],0,100⟩ 100000 0 (SX.door 118 Try.f118 args_rdiv [.one,.one]) [.code (Try.f118.body.getD .skip),.top Try.f118]).strip=tree_rdiv:=by kernel_rfl
set_option maxRecDepth 100000 in
set_option maxHeartbeats 4000000 in
theorem rdiv_any(a0 b0:Nat)(w:World)(ha:a0≤1073741824)(hb:b0≤1073741824):Calls Try.prog 118 #[.int .i64 a0,.int .i64 b0] w fun e w'=>e=.returned (.int .i64 (Nat.gcd a0 b0))∧Below w.heap.size w w':=by
 refine SX.calls_of_run (C:=cx0 (fun _ _ _=>False) (fun _ _ _=>False)) (G:=⟨fun _=>false,[⟨118,1,[(.s 0,.one),(.s 1,.one)]⟩],0,100⟩) (args:=args_rdiv) (sh:=[.one,.one]) (ρ:=[.int .i64 a0,.int .i64 b0]) 100000 tree_rdiv (cx0_ok _ _) Try.func118 rfl (run_rdiv _ _) (by kernel_rfl) (by kernel_rfl) (by kernel_rfl) ?_ ?_
 ·exact fun W _=>SX.Kf_none (fun _ _ _ h=>h) W
 unfold tree_rdiv
 refine SX.VC_loop (fun xs=>∃ a b:Nat,xs=[.int .i64 a,.int .i64 b]∧a≤1073741824∧b≤1073741824∧Nat.gcd a b=Nat.gcd a0 b0) (fun xs=>match xs with|[_,.int _ b]=>b.toNat|_=>0) (fun α=>⟨a0,b0,by kernel_rfl,ha,hb,rfl⟩) ?_
 rintro xs-⟨a,b,rfl,ha1,hb1,hg⟩
 refine SX.D (.bool (decide ((b:Int)>0))) ?_
 refine SX.B (decide ((b:Int)>0)) (fun h4=>?_) (fun h4=>?_)
 ·try simp only [NRM]at h4
  refine SX.E (.int .i64 (((a % b:Nat):Int))) (fun α=>Eq.trans (b:=SX.binV .rem (.int .i64 (a:Int)) (.int .i64 (b:Int))) (by kernel_rfl) (SX.rem_nat (by omega))) ?_
  exact SX.VC_again fun α=>⟨⟨b,a % b,by kernel_rfl,hb1,by have:=Nat.mod_lt a (show 0<b by omega);omega,by rw [← hg,Nat.gcd_comm a b,Nat.gcd_rec b a,Nat.gcd_comm]⟩,by show((a % b:Nat):Int).toNat<(b:Int).toNat;have:=Nat.mod_lt a (show 0<b by omega);omega⟩
 try simp only [NRM]at h4
 exact SX.F (.int .i64 ((a:Int))) (by have hb0:b=0:=(by omega);subst hb0;rw [← hg];simp)
def tree_pdiv:SX.Tree :=
(.df (.bin .eql 101) [(.q 1),(.k (.int .u64 0))] .one
(.br 2 []
(.ret (.q 0) [] [])
(.loop [(.q 0),(.q 1),(.q 1)] [.one,.one,.one]
(.df (.bin .neq 101) [(.q 3),(.k (.int .u64 0))] .one
(.br 6 []
(.df .max [(.q 4),(.k (.int .u64 1))] .one
(.df (.bin .rem 101) [(.q 3),(.q 7)] .one
(.df (.bin .eql 101) [(.q 8),(.k (.int .u64 0))] .one
(.br 9 []
(.ret (.q 4) [] [])
(.again 0 [(.q 4),(.q 8),(.q 3)])))))
(.ret (.q 5) [] []))))))
def args_pdiv:List SX.V:=[.x 0 [],.x 1 []]
set_option maxRecDepth 100000 in
theorem run_pdiv(K A:Value→Nat→List Value→Prop):(SX.run (cx0 K A) ⟨fun _=>true,[⟨120,0,[(.c 1 0,.one),(.c 2 0,.one),(.c 0 0,.one)]⟩],0,100⟩ 100000 0 (SX.door 99 Try.f99 args_pdiv [.one,.one]) [.code (Try.f99.body.getD .skip),.top Try.f99]).strip=tree_pdiv:=by kernel_rfl
theorem rem_natu{a b:Nat}(h:0<b):SX.binV .rem (.int .u64 (a:Int)) (.int .u64 (b:Int))=some (.int .u64 ((a % b:Nat):Int)):=by
 have hb:¬ ((b:Int)=0):=by omega
 have e:((a % b:Nat):Int)=(a:Int).tmod b:=by
  rw [Int.tmod_eq_emod_of_nonneg (by omega)];rfl
 simp only [SX.binV]
 rw [if_pos trivial,if_neg hb,e]
set_option maxRecDepth 100000 in
set_option maxHeartbeats 4000000 in
theorem pdiv_any(a0 b0:Nat)(w:World)(ha:a0≤4611686018427387904)(hb:b0≤4611686018427387904):Calls Try.prog 99 #[.int .u64 a0,.int .u64 b0] w fun e w'=>e=.returned (.int .u64 (Nat.gcd a0 b0))∧Below w.heap.size w w':=by
 refine SX.calls_of_run (C:=cx0 (fun _ _ _=>False) (fun _ _ _=>False)) (G:=⟨fun _=>true,[⟨120,0,[(.c 1 0,.one),(.c 2 0,.one),(.c 0 0,.one)]⟩],0,100⟩) (args:=args_pdiv) (sh:=[.one,.one]) (ρ:=[.int .u64 a0,.int .u64 b0]) 100000 tree_pdiv (cx0_ok _ _) Try.func99 rfl (run_pdiv _ _) (by kernel_rfl) (by kernel_rfl) (by kernel_rfl) ?_ ?_
 ·exact fun W _=>SX.Kf_none (fun _ _ _ h=>h) W
 unfold tree_pdiv
 refine SX.D (.bool ((b0:Int) == 0)) ?_
 refine SX.B ((b0:Int) == 0) (fun h2=>?_) (fun h2=>?_)
 ·simp only [beq_iff_eq]at h2
  exact SX.F (.int .u64 (a0:Int)) (by obtain rfl:b0=0:=(by omega);simp)
 simp only [beq_eq_false_iff_ne,ne_eq]at h2
 refine SX.VC_loop (fun xs=>∃ a b d:Nat,xs=[.int .u64 a,.int .u64 b,.int .u64 d]∧0<b∧(a=0→d=b)∧Nat.gcd a b=Nat.gcd a0 b0) (fun xs=>match xs with|[_,.int _ b,_]=>b.toNat|_=>0) (fun α=>⟨a0,b0,b0,by kernel_rfl,by omega,fun _=>rfl,rfl⟩) ?_
 rintro xs-⟨a,b,d,rfl,hb1,hd,hg⟩
 refine SX.D (.bool ((a:Int) != 0)) ?_
 refine SX.B ((a:Int) != 0) (fun h6=>?_) (fun h6=>?_)
 ·simp only [bne_iff_ne,ne_eq]at h6
  refine SX.E (.int .u64 (b:Int)) (fun α=>Eq.trans (b:=SX.maxV (.int .u64 (b:Int)) (.int .u64 1)) (by kernel_rfl) (by simp only [SX.maxV,if_true];unfold maxI;congr 2;split<;>omega)) ?_
  refine SX.E (.int .u64 (((a % b:Nat):Int))) (fun α=>Eq.trans (b:=SX.binV .rem (.int .u64 (a:Int)) (.int .u64 (b:Int))) (by kernel_rfl) (rem_natu (by omega))) ?_
  refine SX.D (.bool (((a % b:Nat):Int) == 0)) ?_
  have hgr:Nat.gcd b (a % b)=Nat.gcd a0 b0:=by rw [← hg,Nat.gcd_comm a b,Nat.gcd_rec b a,Nat.gcd_comm]
  refine SX.B (((a % b:Nat):Int) == 0) (fun h9=>?_) (fun h9=>?_)
  ·simp only [beq_iff_eq]at h9
   exact SX.F (.int .u64 (b:Int)) (by rw [← hgr,show a % b=0 by omega];simp)
  simp only [beq_eq_false_iff_ne,ne_eq]at h9
  exact SX.VC_again fun α=>⟨⟨b,a % b,a,by kernel_rfl,by omega,by omega,hgr⟩,by show((a % b:Nat):Int).toNat<(b:Int).toNat;have:=Nat.mod_lt a (show 0<b by omega);omega⟩
 simp only [bne_eq_false_iff_eq]at h6
 exact SX.F (.int .u64 (d:Int)) (by rw [hd (by omega),← hg,show a=0 by omega];simp)
def RA(f:FuncId)(xs:List SX.Arg)(v:Value):Prop :=
 (f=119∧∃ n:Int,xs=[⟨.int .i64 n,0,[]⟩]∧-1073741824≤n∧n≤1073741824∧v=.int .i64 n.natAbs) ∨
 (f=100∧∃ n:Int,xs=[⟨.int .i64 n,0,[]⟩]∧-1073741824≤n∧n≤1073741824∧v=.int .u64 n.natAbs) ∨
 (f=118∧∃ a b:Nat,xs=[⟨.int .i64 a,0,[]⟩,⟨.int .i64 b,0,[]⟩]∧a≤1073741824∧b≤1073741824∧v=.int .i64 (Nat.gcd a b)) ∨
 (f=99∧∃ a b:Nat,xs=[⟨.int .u64 a,0,[]⟩,⟨.int .u64 b,0,[]⟩]∧a≤1073741824∧b≤1073741824∧v=.int .u64 (Nat.gcd a b))
def shpA:FuncId→Option SX.Sh:=fun f=>if f=119 then some .one else if f=100 then some .one else if f=118 then some .one else if f=99 then some .one else none
noncomputable def cxA(K A:Value→Nat→List Value→Prop):SX.Cx:={ P:=Try.prog,R:=fun _=>RA,shp:=shpA,K:=K,A:=A }
theorem okA(K A:Value→Nat→List Value→Prop):(cxA K A).Ok:=by
 refine SX.Cx.ok_of (fun _=>rfl) ?_
 intro K f xs v W hR hrd hKf
 rcases hR with ⟨rfl,n,rfl,h1,h2,rfl⟩|⟨rfl,n,rfl,h1,h2,rfl⟩|⟨rfl,a,b,rfl,h1,h2,rfl⟩|⟨rfl,a,b,rfl,h1,h2,rfl⟩
 ·exact(size_any n W h1 h2).mono fun e w' h=>SX.plainOk rfl h
 ·exact(mag_any n W (by omega) (by omega)).mono fun e w' h=>SX.plainOk rfl h
 ·exact(rdiv_any a b W h1 h2).mono fun e w' h=>SX.plainOk rfl h
 exact(pdiv_any a b W (by omega) (by omega)).mono fun e w' h=>SX.plainOk rfl h
def tree_valid:SX.Tree :=
(.df (.bin .geq 3) [(.q 1),(.i 1)] .one
(.br 2 []
(.df (.bin .leq 3) [(.q 1),(.i 1073741824)] .one
(.br 3 []
(.df (.bin .geq 3) [(.q 0),(.i (-1073741824))] .one
(.br 4 []
(.df (.bin .leq 3) [(.q 0),(.i 1073741824)] .one
(.br 5 []
(.df (.call 119 [.no]) [(.q 0)] .one
(.df (.call 118 [.no,.no]) [(.q 6),(.q 1)] .one
(.df (.bin .eql 3) [(.q 7),(.i 1)] .one
(.ret (.q 8) [] []))))
(.ret (.k (.bool false)) [] [])))
(.ret (.k (.bool false)) [] [])))
(.ret (.k (.bool false)) [] [])))
(.ret (.k (.bool false)) [] [])))
def args_valid:List SX.V:=[.a [.x 0 [],.x 1 []]]
set_option maxRecDepth 100000 in
theorem run_valid(K A:Value→Nat→List Value→Prop):(SX.run (cxA K A) ⟨fun _=>false,[],0,100⟩ 100000 0 (SX.door 103 Try.f103 args_valid [.one,.one]) [.code (Try.f103.body.getD .skip),.top Try.f103]).strip=tree_valid:=by kernel_rfl
set_option maxRecDepth 100000 in
set_option maxHeartbeats 4000000 in
theorem valid_any(n d:Int)(w:World)  : Calls Try.prog 103 #[.agg #[.int .i64 n,.int .i64 d]] w fun e w'=>e=.returned (.bool (decide (okR n d)))∧Below w.heap.size w w':=by
 refine SX.calls_of_run (C:=cxA (fun _ _ _=>False) (fun _ _ _=>False)) (G:=⟨fun _=>false,[],0,100⟩) (args:=args_valid) (sh:=[.one,.one]) (ρ:=[.int .i64 n,.int .i64 d]) 100000 tree_valid (okA _ _) Try.func103 rfl (run_valid _ _) (by kernel_rfl) (by kernel_rfl) (by kernel_rfl) ?_ ?_
 ·exact fun W _=>SX.Kf_none (fun _ _ _ h=>h) W
 unfold tree_valid
 refine SX.D (.bool (decide (d≥1))) ?_
 refine SX.B (decide (d≥1)) (fun h2=>?_) (fun h2=>?_)
 ·try simp only [NRM]at h2
  refine SX.D (.bool (decide (d≤1073741824))) ?_
  refine SX.B (decide (d≤1073741824)) (fun h3=>?_) (fun h3=>?_)
  ·try simp only [NRM]at h3
   refine SX.D (.bool (decide (n≥(-1073741824)))) ?_
   refine SX.B (decide (n≥(-1073741824))) (fun h4=>?_) (fun h4=>?_)
   ·try simp only [NRM]at h4
    refine SX.D (.bool (decide (n≤1073741824))) ?_
    refine SX.B (decide (n≤1073741824)) (fun h5=>?_) (fun h5=>?_)
    ·try simp only [NRM]at h5
     obtain⟨m,rfl⟩:∃ m:Nat,d=m:=⟨d.toNat,by omega⟩
     refine SX.E (.int .i64 ((n.natAbs:Int))) (fun α=>⟨[⟨.int .i64 n,0,[]⟩],⟨by kernel_rfl,by kernel_rfl,trivial⟩,.inl ⟨rfl,n,rfl,by omega,by omega,rfl⟩,SX.noAli rfl⟩) ?_
     refine SX.E (.int .i64 (((Nat.gcd n.natAbs m:Nat):Int))) (fun α=>⟨[⟨.int .i64 n.natAbs,0,[]⟩,⟨.int .i64 m,0,[]⟩],⟨by kernel_rfl,by kernel_rfl,by kernel_rfl,by kernel_rfl,trivial⟩,.inr (.inr (.inl ⟨rfl,n.natAbs,m,rfl,by omega,by omega,rfl⟩)),SX.noAli rfl⟩) ?_
     refine SX.D (.bool ((((Nat.gcd n.natAbs m:Nat):Int):Int) == 1)) ?_
     exact SX.F (.bool ((((Nat.gcd n.natAbs m:Nat):Int):Int) == 1)) (by congr 1;first|(symm;rw [decide_eq_false_iff_not,okR_iff];omega)|(rw [Bool.eq_iff_iff];simp only [decide_eq_true_eq,beq_iff_eq,okR_iff,Int.toNat_natCast];omega))
    try simp only [NRM]at h5
    exact SX.F (.bool false) (by congr 1;first|(symm;rw [decide_eq_false_iff_not,okR_iff];omega)|(rw [Bool.eq_iff_iff];simp only [decide_eq_true_eq,beq_iff_eq,okR_iff,Int.toNat_natCast];omega))
   try simp only [NRM]at h4
   exact SX.F (.bool false) (by congr 1;first|(symm;rw [decide_eq_false_iff_not,okR_iff];omega)|(rw [Bool.eq_iff_iff];simp only [decide_eq_true_eq,beq_iff_eq,okR_iff,Int.toNat_natCast];omega))
  try simp only [NRM]at h3
  exact SX.F (.bool false) (by congr 1;first|(symm;rw [decide_eq_false_iff_not,okR_iff];omega)|(rw [Bool.eq_iff_iff];simp only [decide_eq_true_eq,beq_iff_eq,okR_iff,Int.toNat_natCast];omega))
 try simp only [NRM]at h2
 exact SX.F (.bool false) (by congr 1;first|(symm;rw [decide_eq_false_iff_not,okR_iff];omega)|(rw [Bool.eq_iff_iff];simp only [decide_eq_true_eq,beq_iff_eq,okR_iff,Int.toNat_natCast];omega))
def tree_rcheck:SX.Tree :=
(.df (.bin .lss 3) [(.q 1),(.i 1)] .one
(.br 2 []
(.ret (.i 120) [] [])
(.df (.bin .gtr 3) [(.q 1),(.i 1073741824)] .one
(.br 3 []
(.ret (.i 120) [] [])
(.df (.bin .lss 3) [(.q 0),(.i (-1073741824))] .one
(.br 4 []
(.ret (.i 120) [] [])
(.df (.bin .gtr 3) [(.q 0),(.i 1073741824)] .one
(.br 5 []
(.ret (.i 120) [] [])
(.df (.call 100 [.no]) [(.q 0)] .one
(.df (.conv .u64) [(.q 1)] .one
(.df (.call 99 [.no,.no]) [(.q 6),(.q 7)] .one
(.df (.bin .neq 101) [(.q 8),(.k (.int .u64 1))] .one
(.br 9 []
(.ret (.i 120) [] [])
(.ret (.i 0) [] []))))))))))))))
def args_rcheck:List SX.V:=[.a [.x 0 [],.x 1 []]]
set_option maxRecDepth 100000 in
theorem run_rcheck(K A:Value→Nat→List Value→Prop):(SX.run (cxA K A) ⟨fun _=>false,[],0,100⟩ 100000 0 (SX.door 79 Try.f79 args_rcheck [.one,.one]) [.code (Try.f79.body.getD .skip),.top Try.f79]).strip=tree_rcheck:=by kernel_rfl
set_option maxRecDepth 100000 in
set_option maxHeartbeats 4000000 in
theorem rcheck_any(n d:Int)(w:World)  : Calls Try.prog 79 #[.agg #[.int .i64 n,.int .i64 d]] w fun e w'=>e=.returned (.int .i64 (if okR n d then 0 else 120))∧Below w.heap.size w w':=by
 refine SX.calls_of_run (C:=cxA (fun _ _ _=>False) (fun _ _ _=>False)) (G:=⟨fun _=>false,[],0,100⟩) (args:=args_rcheck) (sh:=[.one,.one]) (ρ:=[.int .i64 n,.int .i64 d]) 100000 tree_rcheck (okA _ _) Try.func79 rfl (run_rcheck _ _) (by kernel_rfl) (by kernel_rfl) (by kernel_rfl) ?_ ?_
 ·exact fun W _=>SX.Kf_none (fun _ _ _ h=>h) W
 unfold tree_rcheck
 refine SX.D (.bool (decide (d<1))) ?_
 refine SX.B (decide (d<1)) (fun h2=>?_) (fun h2=>?_)
 ·try simp only [NRM]at h2
  exact SX.F (.int .i64 120) (by first|(rw [if_neg (fun hk=>by rw [okR_iff]at hk;(try simp only [Int.toNat_natCast]at hk);omega)])|(rw [if_pos (by rw [okR_iff];simp only [Int.toNat_natCast];omega)]))
 try simp only [NRM]at h2
 refine SX.D (.bool (decide (d>1073741824))) ?_
 refine SX.B (decide (d>1073741824)) (fun h3=>?_) (fun h3=>?_)
 ·try simp only [NRM]at h3
  exact SX.F (.int .i64 120) (by first|(rw [if_neg (fun hk=>by rw [okR_iff]at hk;(try simp only [Int.toNat_natCast]at hk);omega)])|(rw [if_pos (by rw [okR_iff];simp only [Int.toNat_natCast];omega)]))
 try simp only [NRM]at h3
 refine SX.D (.bool (decide (n<(-1073741824)))) ?_
 refine SX.B (decide (n<(-1073741824))) (fun h4=>?_) (fun h4=>?_)
 ·try simp only [NRM]at h4
  exact SX.F (.int .i64 120) (by first|(rw [if_neg (fun hk=>by rw [okR_iff]at hk;(try simp only [Int.toNat_natCast]at hk);omega)])|(rw [if_pos (by rw [okR_iff];simp only [Int.toNat_natCast];omega)]))
 try simp only [NRM]at h4
 refine SX.D (.bool (decide (n>1073741824))) ?_
 refine SX.B (decide (n>1073741824)) (fun h5=>?_) (fun h5=>?_)
 ·try simp only [NRM]at h5
  exact SX.F (.int .i64 120) (by first|(rw [if_neg (fun hk=>by rw [okR_iff]at hk;(try simp only [Int.toNat_natCast]at hk);omega)])|(rw [if_pos (by rw [okR_iff];simp only [Int.toNat_natCast];omega)]))
 try simp only [NRM]at h5
 obtain⟨m,rfl⟩:∃ m:Nat,d=m:=⟨d.toNat,by omega⟩
 refine SX.E (.int .u64 ((n.natAbs:Int))) (fun α=>⟨[⟨.int .i64 n,0,[]⟩],⟨by kernel_rfl,by kernel_rfl,trivial⟩,.inr (.inl ⟨rfl,n,rfl,by omega,by omega,rfl⟩),SX.noAli rfl⟩) ?_
 refine SX.E (.int .u64 ((m:Int))) (fun α=>Eq.trans (b:=some (.int .u64 (IntKind.u64.wrap (m:Int)))) (by kernel_rfl) (by rw [wrap_u64 (by omega) (by omega)])) ?_
 refine SX.E (.int .u64 (((Nat.gcd n.natAbs m:Nat):Int))) (fun α=>⟨[⟨.int .u64 n.natAbs,0,[]⟩,⟨.int .u64 m,0,[]⟩],⟨by kernel_rfl,by kernel_rfl,by kernel_rfl,by kernel_rfl,trivial⟩,.inr (.inr (.inr (⟨rfl,n.natAbs,m,rfl,by omega,by omega,rfl⟩))),SX.noAli rfl⟩) ?_
 refine SX.D (.bool ((((Nat.gcd n.natAbs m:Nat):Int):Int) != 1)) ?_
 refine SX.B ((((Nat.gcd n.natAbs m:Nat):Int):Int) != 1) (fun h9=>?_) (fun h9=>?_)
 ·try simp only [NRM]at h9
  exact SX.F (.int .i64 120) (by first|(rw [if_neg (fun hk=>by rw [okR_iff]at hk;(try simp only [Int.toNat_natCast]at hk);omega)])|(rw [if_pos (by rw [okR_iff];simp only [Int.toNat_natCast];omega)]))
 try simp only [NRM]at h9
 exact SX.F (.int .i64 0) (by first|(rw [if_neg (fun hk=>by rw [okR_iff]at hk;(try simp only [Int.toNat_natCast]at hk);omega)])|(rw [if_pos (by rw [okR_iff];simp only [Int.toNat_natCast];omega)]))
structure Sg where
 (id role bar mark kind side dir level size with_ fn fd tn td:Int)
 deriving DecidableEq,Inhabited
def cellsSg(s:Sg):List Value:=[.int .i64 s.id,.int .i64 s.role,.int .i64 s.bar,.int .i64 s.mark,.int .i64 s.kind,.int .i64 s.side,.int .i64 s.dir,.int .i64 s.level,.int .i64 s.size,.int .i64 s.with_,.int .i64 s.fn,.int .i64 s.fd,.int .i64 s.tn,.int .i64 s.td]
def valSg(s:Sg):Value:=.agg (cellsSg s).toArray
def okS(fn fd tn td:Int):Prop:=okR fn fd∧okR tn td∧0≤fn∧fn*td<tn*fd∧tn≤td
theorem okS_iff{fn fd tn td:Int}:okS fn fd tn td↔okR fn fd∧okR tn td∧0≤fn∧fn*td<tn*fd∧tn≤td:=Iff.rfl
instance (fn fd tn td:Int):Decidable (okS fn fd tn td):=by unfold okS;infer_instance
def Sg.ok(s:Sg):Prop:=(0≤s.id∧s.id≤1048576)∧(0≤s.role∧s.role≤63)∧(0≤s.bar∧s.bar≤4095)∧(1≤s.kind∧s.kind≤9)∧(1≤s.mark∧s.mark≤3)∧(0≤s.side∧s.side≤2)∧(0≤s.dir∧s.dir≤8)∧(0≤s.level∧s.level≤3)∧(0≤s.size∧s.size≤255)∧(0≤s.with_∧s.with_≤64)∧okS s.fn s.fd s.tn s.td
theorem Sg.ok_iff{s:Sg}:s.ok↔(0≤s.id∧s.id≤1048576)∧(0≤s.role∧s.role≤63)∧(0≤s.bar∧s.bar≤4095)∧(1≤s.kind∧s.kind≤9)∧(1≤s.mark∧s.mark≤3)∧(0≤s.side∧s.side≤2)∧(0≤s.dir∧s.dir≤8)∧(0≤s.level∧s.level≤3)∧(0≤s.size∧s.size≤255)∧(0≤s.with_∧s.with_≤64)∧okS s.fn s.fd s.tn s.td:=Iff.rfl
instance (s:Sg):Decidable s.ok:=by unfold Sg.ok;infer_instance
theorem mul_small{a b:Int}(h1 : -1073741824≤a)(h2:a≤1073741824)(h3 : -1073741824≤b)(h4:b≤1073741824) : -1152921504606846976≤a*b∧a*b≤1152921504606846976:=by
 have h:=Int.natAbs_mul a b
 have h5:a.natAbs*b.natAbs≤1073741824*1073741824:=Nat.mul_le_mul (by omega) (by omega)
 omega
def RB(f:FuncId)(xs:List SX.Arg)(v:Value):Prop :=
 (f=103∧∃ n d:Int,xs=[⟨.agg #[.int .i64 n,.int .i64 d],0,[]⟩]∧v=.bool (decide (okR n d))) ∨
 (f=79∧∃ n d:Int,xs=[⟨.agg #[.int .i64 n,.int .i64 d],0,[]⟩]∧v=.int .i64 (if okR n d then 0 else 120))
def shpB:FuncId→Option SX.Sh:=fun f=>if f=103 then some .one else if f=79 then some .one else none
noncomputable def cxB(K A:Value→Nat→List Value→Prop):SX.Cx:={ P:=Try.prog,R:=fun _=>RB,shp:=shpB,K:=K,A:=A }
theorem okB(K A:Value→Nat→List Value→Prop):(cxB K A).Ok:=by
 refine SX.Cx.ok_of (fun _=>rfl) ?_
 intro K f xs v W hR hrd hKf
 rcases hR with ⟨rfl,n,d,rfl,rfl⟩|⟨rfl,n,d,rfl,rfl⟩
 ·exact(valid_any n d W).mono fun e w' h=>SX.plainOk rfl h
 exact(rcheck_any n d W).mono fun e w' h=>SX.plainOk rfl h
def tree_Form:SX.Tree :=
(.df (.bin .geq 3) [(.q 0),(.i 0)] .one
(.br 14 []
(.df (.bin .leq 3) [(.q 0),(.i 1048576)] .one
(.df .not [(.q 15)] .one
(.br 16 []
(.ret (.k (.bool false)) [] [])
(.df (.bin .geq 3) [(.q 1),(.i 0)] .one
(.br 17 []
(.df (.bin .leq 3) [(.q 1),(.i 63)] .one
(.df .not [(.q 18)] .one
(.br 19 []
(.ret (.k (.bool false)) [] [])
(.df (.bin .geq 3) [(.q 2),(.i 0)] .one
(.br 20 []
(.df (.bin .leq 3) [(.q 2),(.i 4095)] .one
(.df .not [(.q 21)] .one
(.br 22 []
(.ret (.k (.bool false)) [] [])
(.df (.bin .geq 3) [(.q 4),(.i 1)] .one
(.br 23 []
(.df (.bin .leq 3) [(.q 4),(.i 9)] .one
(.df .not [(.q 24)] .one
(.br 25 []
(.ret (.k (.bool false)) [] [])
(.df (.bin .geq 3) [(.q 3),(.i 1)] .one
(.br 26 []
(.df (.bin .leq 3) [(.q 3),(.i 3)] .one
(.df .not [(.q 27)] .one
(.br 28 []
(.ret (.k (.bool false)) [] [])
(.df (.bin .geq 3) [(.q 5),(.i 0)] .one
(.br 29 []
(.df (.bin .leq 3) [(.q 5),(.i 2)] .one
(.df .not [(.q 30)] .one
(.br 31 []
(.ret (.k (.bool false)) [] [])
(.df (.bin .geq 3) [(.q 6),(.i 0)] .one
(.br 32 []
(.df (.bin .leq 3) [(.q 6),(.i 8)] .one
(.df .not [(.q 33)] .one
(.br 34 []
(.ret (.k (.bool false)) [] [])
(.df (.bin .geq 3) [(.q 7),(.i 0)] .one
(.br 35 []
(.df (.bin .leq 3) [(.q 7),(.i 3)] .one
(.df .not [(.q 36)] .one
(.br 37 []
(.ret (.k (.bool false)) [] [])
(.df (.bin .geq 3) [(.q 8),(.i 0)] .one
(.br 38 []
(.df (.bin .leq 3) [(.q 8),(.i 255)] .one
(.df .not [(.q 39)] .one
(.br 40 []
(.ret (.k (.bool false)) [] [])
(.df (.bin .geq 3) [(.q 9),(.i 0)] .one
(.br 41 []
(.df (.bin .leq 3) [(.q 9),(.i 64)] .one
(.df .not [(.q 42)] .one
(.br 43 []
(.ret (.k (.bool false)) [] [])
(.df (.call 103 [.no]) [(.a [(.q 10),(.q 11)])] .one
(.br 44 []
(.df (.call 103 [.no]) [(.a [(.q 12),(.q 13)])] .one
(.br 45 []
(.df (.bin .geq 3) [(.q 10),(.i 0)] .one
(.br 46 []
(.df (.bin .mul 3) [(.q 10),(.q 13)] .one
(.df (.bin .mul 3) [(.q 12),(.q 11)] .one
(.df (.bin .lss 3) [(.q 47),(.q 48)] .one
(.br 49 []
(.df (.bin .leq 3) [(.q 12),(.q 13)] .one
(.ret (.q 50) [] []))
(.ret (.k (.bool false)) [] [])))))
(.ret (.k (.bool false)) [] [])))
(.ret (.k (.bool false)) [] [])))
(.ret (.k (.bool false)) [] []))))))
(.ret (.k (.bool false)) [] []))))))
(.ret (.k (.bool false)) [] []))))))
(.ret (.k (.bool false)) [] []))))))
(.ret (.k (.bool false)) [] []))))))
(.ret (.k (.bool false)) [] []))))))
(.ret (.k (.bool false)) [] []))))))
(.ret (.k (.bool false)) [] []))))))
(.ret (.k (.bool false)) [] []))))))
(.ret (.k (.bool false)) [] []))))))
(.ret (.k (.bool false)) [] [])))
def args_Form:List SX.V:=[.a ((List.range 14).map fun j=>.x j [])]
set_option maxRecDepth 100000 in
theorem run_Form(K A:Value→Nat→List Value→Prop):(SX.run (cxB K A) ⟨fun f=>f != 103,[],0,100⟩ 100000 0 (SX.door 86 Try.f86 args_Form (List.replicate 14 .one)) [.code (Try.f86.body.getD .skip),.top Try.f86]).strip=tree_Form:=by kernel_rfl
set_option maxRecDepth 100000 in
set_option maxHeartbeats 4000000 in
theorem Form_any(s:Sg)(w:World)  : Calls Try.prog 86 #[valSg s] w fun e w'=>e=.returned (.bool (decide s.ok))∧Below w.heap.size w w':=by
 refine SX.calls_of_run (C:=cxB (fun _ _ _=>False) (fun _ _ _=>False)) (G:=⟨fun f=>f != 103,[],0,100⟩) (args:=args_Form) (sh:=(List.replicate 14 .one)) (ρ:=(cellsSg s)) 100000 tree_Form (okB _ _) Try.func86 rfl (run_Form _ _) (by kernel_rfl) (by kernel_rfl) (by kernel_rfl) ?_ ?_
 ·exact fun W _=>SX.Kf_none (fun _ _ _ h=>h) W
 unfold tree_Form
 refine SX.D (.bool (decide (s.id≥0))) ?_
 refine SX.B (decide (s.id≥0)) (fun h14=>?_) (fun h14=>?_)
 ·try simp only [NRM]at h14
  refine SX.D (.bool (decide (s.id≤1048576))) ?_
  refine SX.D (.bool (!(decide (s.id≤1048576)))) ?_
  refine SX.B (!(decide (s.id≤1048576))) (fun h16=>?_) (fun h16=>?_)
  ·try simp only [NRM]at h16
   exact SX.F (.bool false) (by congr 1;first|(symm;rw [decide_eq_false_iff_not];intro hk;simp only [Sg.ok_iff,okS_iff]at hk;first|omega|simp_all)|(rw [Bool.eq_iff_iff];simp only [decide_eq_true_eq,Sg.ok_iff,okS_iff,h44,h45,true_and];omega))
  try simp only [NRM]at h16
  refine SX.D (.bool (decide (s.role≥0))) ?_
  refine SX.B (decide (s.role≥0)) (fun h17=>?_) (fun h17=>?_)
  ·try simp only [NRM]at h17
   refine SX.D (.bool (decide (s.role≤63))) ?_
   refine SX.D (.bool (!(decide (s.role≤63)))) ?_
   refine SX.B (!(decide (s.role≤63))) (fun h19=>?_) (fun h19=>?_)
   ·try simp only [NRM]at h19
    exact SX.F (.bool false) (by congr 1;first|(symm;rw [decide_eq_false_iff_not];intro hk;simp only [Sg.ok_iff,okS_iff]at hk;first|omega|simp_all)|(rw [Bool.eq_iff_iff];simp only [decide_eq_true_eq,Sg.ok_iff,okS_iff,h44,h45,true_and];omega))
   try simp only [NRM]at h19
   refine SX.D (.bool (decide (s.bar≥0))) ?_
   refine SX.B (decide (s.bar≥0)) (fun h20=>?_) (fun h20=>?_)
   ·try simp only [NRM]at h20
    refine SX.D (.bool (decide (s.bar≤4095))) ?_
    refine SX.D (.bool (!(decide (s.bar≤4095)))) ?_
    refine SX.B (!(decide (s.bar≤4095))) (fun h22=>?_) (fun h22=>?_)
    ·try simp only [NRM]at h22
     exact SX.F (.bool false) (by congr 1;first|(symm;rw [decide_eq_false_iff_not];intro hk;simp only [Sg.ok_iff,okS_iff]at hk;first|omega|simp_all)|(rw [Bool.eq_iff_iff];simp only [decide_eq_true_eq,Sg.ok_iff,okS_iff,h44,h45,true_and];omega))
    try simp only [NRM]at h22
    refine SX.D (.bool (decide (s.kind≥1))) ?_
    refine SX.B (decide (s.kind≥1)) (fun h23=>?_) (fun h23=>?_)
    ·try simp only [NRM]at h23
     refine SX.D (.bool (decide (s.kind≤9))) ?_
     refine SX.D (.bool (!(decide (s.kind≤9)))) ?_
     refine SX.B (!(decide (s.kind≤9))) (fun h25=>?_) (fun h25=>?_)
     ·try simp only [NRM]at h25
      exact SX.F (.bool false) (by congr 1;first|(symm;rw [decide_eq_false_iff_not];intro hk;simp only [Sg.ok_iff,okS_iff]at hk;first|omega|simp_all)|(rw [Bool.eq_iff_iff];simp only [decide_eq_true_eq,Sg.ok_iff,okS_iff,h44,h45,true_and];omega))
     try simp only [NRM]at h25
     refine SX.D (.bool (decide (s.mark≥1))) ?_
     refine SX.B (decide (s.mark≥1)) (fun h26=>?_) (fun h26=>?_)
     ·try simp only [NRM]at h26
      refine SX.D (.bool (decide (s.mark≤3))) ?_
      refine SX.D (.bool (!(decide (s.mark≤3)))) ?_
      refine SX.B (!(decide (s.mark≤3))) (fun h28=>?_) (fun h28=>?_)
      ·try simp only [NRM]at h28
       exact SX.F (.bool false) (by congr 1;first|(symm;rw [decide_eq_false_iff_not];intro hk;simp only [Sg.ok_iff,okS_iff]at hk;first|omega|simp_all)|(rw [Bool.eq_iff_iff];simp only [decide_eq_true_eq,Sg.ok_iff,okS_iff,h44,h45,true_and];omega))
      try simp only [NRM]at h28
      refine SX.D (.bool (decide (s.side≥0))) ?_
      refine SX.B (decide (s.side≥0)) (fun h29=>?_) (fun h29=>?_)
      ·try simp only [NRM]at h29
       refine SX.D (.bool (decide (s.side≤2))) ?_
       refine SX.D (.bool (!(decide (s.side≤2)))) ?_
       refine SX.B (!(decide (s.side≤2))) (fun h31=>?_) (fun h31=>?_)
       ·try simp only [NRM]at h31
        exact SX.F (.bool false) (by congr 1;first|(symm;rw [decide_eq_false_iff_not];intro hk;simp only [Sg.ok_iff,okS_iff]at hk;first|omega|simp_all)|(rw [Bool.eq_iff_iff];simp only [decide_eq_true_eq,Sg.ok_iff,okS_iff,h44,h45,true_and];omega))
       try simp only [NRM]at h31
       refine SX.D (.bool (decide (s.dir≥0))) ?_
       refine SX.B (decide (s.dir≥0)) (fun h32=>?_) (fun h32=>?_)
       ·try simp only [NRM]at h32
        refine SX.D (.bool (decide (s.dir≤8))) ?_
        refine SX.D (.bool (!(decide (s.dir≤8)))) ?_
        refine SX.B (!(decide (s.dir≤8))) (fun h34=>?_) (fun h34=>?_)
        ·try simp only [NRM]at h34
         exact SX.F (.bool false) (by congr 1;first|(symm;rw [decide_eq_false_iff_not];intro hk;simp only [Sg.ok_iff,okS_iff]at hk;first|omega|simp_all)|(rw [Bool.eq_iff_iff];simp only [decide_eq_true_eq,Sg.ok_iff,okS_iff,h44,h45,true_and];omega))
        try simp only [NRM]at h34
        refine SX.D (.bool (decide (s.level≥0))) ?_
        refine SX.B (decide (s.level≥0)) (fun h35=>?_) (fun h35=>?_)
        ·try simp only [NRM]at h35
         refine SX.D (.bool (decide (s.level≤3))) ?_
         refine SX.D (.bool (!(decide (s.level≤3)))) ?_
         refine SX.B (!(decide (s.level≤3))) (fun h37=>?_) (fun h37=>?_)
         ·try simp only [NRM]at h37
          exact SX.F (.bool false) (by congr 1;first|(symm;rw [decide_eq_false_iff_not];intro hk;simp only [Sg.ok_iff,okS_iff]at hk;first|omega|simp_all)|(rw [Bool.eq_iff_iff];simp only [decide_eq_true_eq,Sg.ok_iff,okS_iff,h44,h45,true_and];omega))
         try simp only [NRM]at h37
         refine SX.D (.bool (decide (s.size≥0))) ?_
         refine SX.B (decide (s.size≥0)) (fun h38=>?_) (fun h38=>?_)
         ·try simp only [NRM]at h38
          refine SX.D (.bool (decide (s.size≤255))) ?_
          refine SX.D (.bool (!(decide (s.size≤255)))) ?_
          refine SX.B (!(decide (s.size≤255))) (fun h40=>?_) (fun h40=>?_)
          ·try simp only [NRM]at h40
           exact SX.F (.bool false) (by congr 1;first|(symm;rw [decide_eq_false_iff_not];intro hk;simp only [Sg.ok_iff,okS_iff]at hk;first|omega|simp_all)|(rw [Bool.eq_iff_iff];simp only [decide_eq_true_eq,Sg.ok_iff,okS_iff,h44,h45,true_and];omega))
          try simp only [NRM]at h40
          refine SX.D (.bool (decide (s.with_≥0))) ?_
          refine SX.B (decide (s.with_≥0)) (fun h41=>?_) (fun h41=>?_)
          ·try simp only [NRM]at h41
           refine SX.D (.bool (decide (s.with_≤64))) ?_
           refine SX.D (.bool (!(decide (s.with_≤64)))) ?_
           refine SX.B (!(decide (s.with_≤64))) (fun h43=>?_) (fun h43=>?_)
           ·try simp only [NRM]at h43
            exact SX.F (.bool false) (by congr 1;first|(symm;rw [decide_eq_false_iff_not];intro hk;simp only [Sg.ok_iff,okS_iff]at hk;first|omega|simp_all)|(rw [Bool.eq_iff_iff];simp only [decide_eq_true_eq,Sg.ok_iff,okS_iff,h44,h45,true_and];omega))
           try simp only [NRM]at h43
           refine SX.E (.bool (decide (okR s.fn s.fd))) (fun α=>⟨[⟨.agg #[.int .i64 s.fn,.int .i64 s.fd],0,[]⟩],⟨by kernel_rfl,by kernel_rfl,trivial⟩,.inl ⟨rfl,_,_,rfl,rfl⟩,SX.noAli rfl⟩) ?_
           refine SX.B (decide (okR s.fn s.fd)) (fun h44=>?_) (fun h44=>?_)
           ·try simp only [NRM]at h44
            refine SX.E (.bool (decide (okR s.tn s.td))) (fun α=>⟨[⟨.agg #[.int .i64 s.tn,.int .i64 s.td],0,[]⟩],⟨by kernel_rfl,by kernel_rfl,trivial⟩,.inl ⟨rfl,_,_,rfl,rfl⟩,SX.noAli rfl⟩) ?_
            refine SX.B (decide (okR s.tn s.td)) (fun h45=>?_) (fun h45=>?_)
            ·try simp only [NRM]at h45
             refine SX.D (.bool (decide (s.fn≥0))) ?_
             refine SX.B (decide (s.fn≥0)) (fun h46=>?_) (fun h46=>?_)
             ·try simp only [NRM]at h46
              have q1:okR s.fn s.fd:=h44
              have q2:okR s.tn s.td:=h45
              unfold okR at q1 q2
              have m1:=mul_small (a:=s.fn) (b:=s.td) (by omega) (by omega) (by omega) (by omega)
              have m2:=mul_small (a:=s.tn) (b:=s.fd) (by omega) (by omega) (by omega) (by omega)
              refine SX.E (.int .i64 (s.fn*s.td)) (fun α=>SX.W (s.fn*s.td)) ?_
              refine SX.E (.int .i64 (s.tn*s.fd)) (fun α=>SX.W (s.tn*s.fd)) ?_
              refine SX.D (.bool (decide (s.fn*s.td<s.tn*s.fd))) ?_
              refine SX.B (decide (s.fn*s.td<s.tn*s.fd)) (fun h49=>?_) (fun h49=>?_)
              ·try simp only [NRM]at h49
               refine SX.D (.bool (decide (s.tn≤s.td))) ?_
               exact SX.F (.bool (decide (s.tn≤s.td))) (by congr 1;first|(symm;rw [decide_eq_false_iff_not];intro hk;simp only [Sg.ok_iff,okS_iff]at hk;first|omega|simp_all)|(rw [Bool.eq_iff_iff];simp only [decide_eq_true_eq,Sg.ok_iff,okS_iff,h44,h45,true_and];omega))
              try simp only [NRM]at h49
              exact SX.F (.bool false) (by congr 1;first|(symm;rw [decide_eq_false_iff_not];intro hk;simp only [Sg.ok_iff,okS_iff]at hk;first|omega|simp_all)|(rw [Bool.eq_iff_iff];simp only [decide_eq_true_eq,Sg.ok_iff,okS_iff,h44,h45,true_and];omega))
             try simp only [NRM]at h46
             exact SX.F (.bool false) (by congr 1;first|(symm;rw [decide_eq_false_iff_not];intro hk;simp only [Sg.ok_iff,okS_iff]at hk;first|omega|simp_all)|(rw [Bool.eq_iff_iff];simp only [decide_eq_true_eq,Sg.ok_iff,okS_iff,h44,h45,true_and];omega))
            try simp only [NRM]at h45
            exact SX.F (.bool false) (by congr 1;first|(symm;rw [decide_eq_false_iff_not];intro hk;simp only [Sg.ok_iff,okS_iff]at hk;first|omega|simp_all)|(rw [Bool.eq_iff_iff];simp only [decide_eq_true_eq,Sg.ok_iff,okS_iff,h44,h45,true_and];omega))
           try simp only [NRM]at h44
           exact SX.F (.bool false) (by congr 1;first|(symm;rw [decide_eq_false_iff_not];intro hk;simp only [Sg.ok_iff,okS_iff]at hk;first|omega|simp_all)|(rw [Bool.eq_iff_iff];simp only [decide_eq_true_eq,Sg.ok_iff,okS_iff,h44,h45,true_and];omega))
          try simp only [NRM]at h41
          exact SX.F (.bool false) (by congr 1;first|(symm;rw [decide_eq_false_iff_not];intro hk;simp only [Sg.ok_iff,okS_iff]at hk;first|omega|simp_all)|(rw [Bool.eq_iff_iff];simp only [decide_eq_true_eq,Sg.ok_iff,okS_iff,h44,h45,true_and];omega))
         try simp only [NRM]at h38
         exact SX.F (.bool false) (by congr 1;first|(symm;rw [decide_eq_false_iff_not];intro hk;simp only [Sg.ok_iff,okS_iff]at hk;first|omega|simp_all)|(rw [Bool.eq_iff_iff];simp only [decide_eq_true_eq,Sg.ok_iff,okS_iff,h44,h45,true_and];omega))
        try simp only [NRM]at h35
        exact SX.F (.bool false) (by congr 1;first|(symm;rw [decide_eq_false_iff_not];intro hk;simp only [Sg.ok_iff,okS_iff]at hk;first|omega|simp_all)|(rw [Bool.eq_iff_iff];simp only [decide_eq_true_eq,Sg.ok_iff,okS_iff,h44,h45,true_and];omega))
       try simp only [NRM]at h32
       exact SX.F (.bool false) (by congr 1;first|(symm;rw [decide_eq_false_iff_not];intro hk;simp only [Sg.ok_iff,okS_iff]at hk;first|omega|simp_all)|(rw [Bool.eq_iff_iff];simp only [decide_eq_true_eq,Sg.ok_iff,okS_iff,h44,h45,true_and];omega))
      try simp only [NRM]at h29
      exact SX.F (.bool false) (by congr 1;first|(symm;rw [decide_eq_false_iff_not];intro hk;simp only [Sg.ok_iff,okS_iff]at hk;first|omega|simp_all)|(rw [Bool.eq_iff_iff];simp only [decide_eq_true_eq,Sg.ok_iff,okS_iff,h44,h45,true_and];omega))
     try simp only [NRM]at h26
     exact SX.F (.bool false) (by congr 1;first|(symm;rw [decide_eq_false_iff_not];intro hk;simp only [Sg.ok_iff,okS_iff]at hk;first|omega|simp_all)|(rw [Bool.eq_iff_iff];simp only [decide_eq_true_eq,Sg.ok_iff,okS_iff,h44,h45,true_and];omega))
    try simp only [NRM]at h23
    exact SX.F (.bool false) (by congr 1;first|(symm;rw [decide_eq_false_iff_not];intro hk;simp only [Sg.ok_iff,okS_iff]at hk;first|omega|simp_all)|(rw [Bool.eq_iff_iff];simp only [decide_eq_true_eq,Sg.ok_iff,okS_iff,h44,h45,true_and];omega))
   try simp only [NRM]at h20
   exact SX.F (.bool false) (by congr 1;first|(symm;rw [decide_eq_false_iff_not];intro hk;simp only [Sg.ok_iff,okS_iff]at hk;first|omega|simp_all)|(rw [Bool.eq_iff_iff];simp only [decide_eq_true_eq,Sg.ok_iff,okS_iff,h44,h45,true_and];omega))
  try simp only [NRM]at h17
  exact SX.F (.bool false) (by congr 1;first|(symm;rw [decide_eq_false_iff_not];intro hk;simp only [Sg.ok_iff,okS_iff]at hk;first|omega|simp_all)|(rw [Bool.eq_iff_iff];simp only [decide_eq_true_eq,Sg.ok_iff,okS_iff,h44,h45,true_and];omega))
 try simp only [NRM]at h14
 exact SX.F (.bool false) (by congr 1;first|(symm;rw [decide_eq_false_iff_not];intro hk;simp only [Sg.ok_iff,okS_iff]at hk;first|omega|simp_all)|(rw [Bool.eq_iff_iff];simp only [decide_eq_true_eq,Sg.ok_iff,okS_iff,h44,h45,true_and];omega))
def tree_form:SX.Tree :=
(.df (.bin .geq 3) [(.q 0),(.i 0)] .one
(.br 14 []
(.df (.bin .leq 3) [(.q 0),(.i 1048576)] .one
(.br 15 []
(.df (.bin .geq 3) [(.q 1),(.i 0)] .one
(.br 16 []
(.df (.bin .leq 3) [(.q 1),(.i 63)] .one
(.br 17 []
(.df (.bin .geq 3) [(.q 2),(.i 0)] .one
(.br 18 []
(.df (.bin .leq 3) [(.q 2),(.i 4095)] .one
(.br 19 []
(.df (.bin .geq 3) [(.q 4),(.i 1)] .one
(.br 20 []
(.df (.bin .leq 3) [(.q 4),(.i 9)] .one
(.br 21 []
(.df (.bin .geq 3) [(.q 3),(.i 1)] .one
(.br 22 []
(.df (.bin .leq 3) [(.q 3),(.i 3)] .one
(.br 23 []
(.df (.bin .geq 3) [(.q 5),(.i 0)] .one
(.br 24 []
(.df (.bin .leq 3) [(.q 5),(.i 2)] .one
(.br 25 []
(.df (.bin .geq 3) [(.q 6),(.i 0)] .one
(.br 26 []
(.df (.bin .leq 3) [(.q 6),(.i 8)] .one
(.br 27 []
(.df (.bin .geq 3) [(.q 7),(.i 0)] .one
(.br 28 []
(.df (.bin .leq 3) [(.q 7),(.i 3)] .one
(.br 29 []
(.df (.bin .geq 3) [(.q 8),(.i 0)] .one
(.br 30 []
(.df (.bin .leq 3) [(.q 8),(.i 255)] .one
(.br 31 []
(.df (.bin .geq 3) [(.q 9),(.i 0)] .one
(.br 32 []
(.df (.bin .leq 3) [(.q 9),(.i 64)] .one
(.br 33 []
(.df (.call 79 [.no]) [(.a [(.q 10),(.q 11)])] .one
(.df (.bin .neq 31) [(.q 34),(.i 0)] .one
(.br 35 []
(.ret (.k (.bool false)) [] [])
(.df (.call 79 [.no]) [(.a [(.q 12),(.q 13)])] .one
(.df (.bin .neq 31) [(.q 36),(.i 0)] .one
(.br 37 []
(.ret (.k (.bool false)) [] [])
(.df (.bin .mul 3) [(.q 10),(.q 13)] .one
(.df (.bin .mul 3) [(.q 12),(.q 11)] .one
(.df (.bin .neq 3) [(.q 38),(.q 38)] .one
(.df (.bin .neq 3) [(.q 39),(.q 39)] .one
(.br 40 []
(.br 41 []
(.ret (.k (.bool false)) [] [])
(.df (.bin .geq 3) [(.q 10),(.i 0)] .one
(.br 42 []
(.df (.bin .leq 3) [(.q 12),(.q 13)] .one
(.ret (.q 43) [] []))
(.ret (.k (.bool false)) [] []))))
(.br 41 []
(.ret (.k (.bool false)) [] [])
(.df (.bin .lss 3) [(.q 38),(.q 39)] .one
(.br 42 []
(.df (.bin .geq 3) [(.q 10),(.i 0)] .one
(.br 43 []
(.df (.bin .leq 3) [(.q 12),(.q 13)] .one
(.ret (.q 44) [] []))
(.ret (.k (.bool false)) [] [])))
(.df (.bin .gtr 3) [(.q 38),(.q 39)] .one
(.br 43 []
(.ret (.k (.bool false)) [] [])
(.ret (.k (.bool false)) [] [])))))))))))))))))
(.ret (.k (.bool false)) [] [])))
(.ret (.k (.bool false)) [] [])))
(.ret (.k (.bool false)) [] [])))
(.ret (.k (.bool false)) [] [])))
(.ret (.k (.bool false)) [] [])))
(.ret (.k (.bool false)) [] [])))
(.ret (.k (.bool false)) [] [])))
(.ret (.k (.bool false)) [] [])))
(.ret (.k (.bool false)) [] [])))
(.ret (.k (.bool false)) [] [])))
(.ret (.k (.bool false)) [] [])))
(.ret (.k (.bool false)) [] [])))
(.ret (.k (.bool false)) [] [])))
(.ret (.k (.bool false)) [] [])))
(.ret (.k (.bool false)) [] [])))
(.ret (.k (.bool false)) [] [])))
(.ret (.k (.bool false)) [] [])))
(.ret (.k (.bool false)) [] [])))
(.ret (.k (.bool false)) [] [])))
(.ret (.k (.bool false)) [] [])))
def args_form:List SX.V:=[.a ((List.range 14).map fun j=>.x j [])]
set_option maxRecDepth 100000 in
theorem run_form(K A:Value→Nat→List Value→Prop):(SX.run (cxB K A) ⟨fun f=>f != 79,[],0,100⟩ 100000 0 (SX.door 38 Try.f38 args_form (List.replicate 14 .one)) [.code (Try.f38.body.getD .skip),.top Try.f38]).strip=tree_form:=by kernel_rfl
set_option maxRecDepth 100000 in
set_option maxHeartbeats 4000000 in
theorem form_any(s:Sg)(w:World)  : Calls Try.prog 38 #[valSg s] w fun e w'=>e=.returned (.bool (decide s.ok))∧Below w.heap.size w w':=by
 refine SX.calls_of_run (C:=cxB (fun _ _ _=>False) (fun _ _ _=>False)) (G:=⟨fun f=>f != 79,[],0,100⟩) (args:=args_form) (sh:=(List.replicate 14 .one)) (ρ:=(cellsSg s)) 100000 tree_form (okB _ _) Try.func38 rfl (run_form _ _) (by kernel_rfl) (by kernel_rfl) (by kernel_rfl) ?_ ?_
 ·exact fun W _=>SX.Kf_none (fun _ _ _ h=>h) W
 unfold tree_form
 refine SX.D (.bool (decide (s.id≥0))) ?_
 refine SX.B (decide (s.id≥0)) (fun h14=>?_) (fun h14=>?_)
 ·try simp only [NRM]at h14
  refine SX.D (.bool (decide (s.id≤1048576))) ?_
  refine SX.B (decide (s.id≤1048576)) (fun h15=>?_) (fun h15=>?_)
  ·try simp only [NRM]at h15
   refine SX.D (.bool (decide (s.role≥0))) ?_
   refine SX.B (decide (s.role≥0)) (fun h16=>?_) (fun h16=>?_)
   ·try simp only [NRM]at h16
    refine SX.D (.bool (decide (s.role≤63))) ?_
    refine SX.B (decide (s.role≤63)) (fun h17=>?_) (fun h17=>?_)
    ·try simp only [NRM]at h17
     refine SX.D (.bool (decide (s.bar≥0))) ?_
     refine SX.B (decide (s.bar≥0)) (fun h18=>?_) (fun h18=>?_)
     ·try simp only [NRM]at h18
      refine SX.D (.bool (decide (s.bar≤4095))) ?_
      refine SX.B (decide (s.bar≤4095)) (fun h19=>?_) (fun h19=>?_)
      ·try simp only [NRM]at h19
       refine SX.D (.bool (decide (s.kind≥1))) ?_
       refine SX.B (decide (s.kind≥1)) (fun h20=>?_) (fun h20=>?_)
       ·try simp only [NRM]at h20
        refine SX.D (.bool (decide (s.kind≤9))) ?_
        refine SX.B (decide (s.kind≤9)) (fun h21=>?_) (fun h21=>?_)
        ·try simp only [NRM]at h21
         refine SX.D (.bool (decide (s.mark≥1))) ?_
         refine SX.B (decide (s.mark≥1)) (fun h22=>?_) (fun h22=>?_)
         ·try simp only [NRM]at h22
          refine SX.D (.bool (decide (s.mark≤3))) ?_
          refine SX.B (decide (s.mark≤3)) (fun h23=>?_) (fun h23=>?_)
          ·try simp only [NRM]at h23
           refine SX.D (.bool (decide (s.side≥0))) ?_
           refine SX.B (decide (s.side≥0)) (fun h24=>?_) (fun h24=>?_)
           ·try simp only [NRM]at h24
            refine SX.D (.bool (decide (s.side≤2))) ?_
            refine SX.B (decide (s.side≤2)) (fun h25=>?_) (fun h25=>?_)
            ·try simp only [NRM]at h25
             refine SX.D (.bool (decide (s.dir≥0))) ?_
             refine SX.B (decide (s.dir≥0)) (fun h26=>?_) (fun h26=>?_)
             ·try simp only [NRM]at h26
              refine SX.D (.bool (decide (s.dir≤8))) ?_
              refine SX.B (decide (s.dir≤8)) (fun h27=>?_) (fun h27=>?_)
              ·try simp only [NRM]at h27
               refine SX.D (.bool (decide (s.level≥0))) ?_
               refine SX.B (decide (s.level≥0)) (fun h28=>?_) (fun h28=>?_)
               ·try simp only [NRM]at h28
                refine SX.D (.bool (decide (s.level≤3))) ?_
                refine SX.B (decide (s.level≤3)) (fun h29=>?_) (fun h29=>?_)
                ·try simp only [NRM]at h29
                 refine SX.D (.bool (decide (s.size≥0))) ?_
                 refine SX.B (decide (s.size≥0)) (fun h30=>?_) (fun h30=>?_)
                 ·try simp only [NRM]at h30
                  refine SX.D (.bool (decide (s.size≤255))) ?_
                  refine SX.B (decide (s.size≤255)) (fun h31=>?_) (fun h31=>?_)
                  ·try simp only [NRM]at h31
                   refine SX.D (.bool (decide (s.with_≥0))) ?_
                   refine SX.B (decide (s.with_≥0)) (fun h32=>?_) (fun h32=>?_)
                   ·try simp only [NRM]at h32
                    refine SX.D (.bool (decide (s.with_≤64))) ?_
                    refine SX.B (decide (s.with_≤64)) (fun h33=>?_) (fun h33=>?_)
                    ·try simp only [NRM]at h33
                     refine SX.E (.int .i64 ((if okR s.fn s.fd then(0:Int)else 120))) (fun α=>⟨[⟨.agg #[.int .i64 s.fn,.int .i64 s.fd],0,[]⟩],⟨by kernel_rfl,by kernel_rfl,trivial⟩,.inr (⟨rfl,_,_,rfl,rfl⟩),SX.noAli rfl⟩) ?_
                     refine SX.E (.bool (!decide (okR s.fn s.fd))) (fun α=>Eq.trans (b:=some (.bool ((if okR s.fn s.fd then(0:Int)else 120) != 0))) (by kernel_rfl) (by split<;>simp_all)) ?_
                     refine SX.B (!decide (okR s.fn s.fd)) (fun h35=>?_) (fun h35=>?_)
                     ·try simp only [NRM]at h35
                      exact SX.F (.bool false) (by congr 1;first|(symm;rw [decide_eq_false_iff_not];intro hk;simp only [Sg.ok_iff,okS_iff]at hk;first|omega|simp_all)|(rw [Bool.eq_iff_iff];simp only [decide_eq_true_eq,Sg.ok_iff,okS_iff,h35,h37,true_and];omega))
                     try simp only [NRM]at h35
                     refine SX.E (.int .i64 ((if okR s.tn s.td then(0:Int)else 120))) (fun α=>⟨[⟨.agg #[.int .i64 s.tn,.int .i64 s.td],0,[]⟩],⟨by kernel_rfl,by kernel_rfl,trivial⟩,.inr (⟨rfl,_,_,rfl,rfl⟩),SX.noAli rfl⟩) ?_
                     refine SX.E (.bool (!decide (okR s.tn s.td))) (fun α=>Eq.trans (b:=some (.bool ((if okR s.tn s.td then(0:Int)else 120) != 0))) (by kernel_rfl) (by split<;>simp_all)) ?_
                     refine SX.B (!decide (okR s.tn s.td)) (fun h37=>?_) (fun h37=>?_)
                     ·try simp only [NRM]at h37
                      exact SX.F (.bool false) (by congr 1;first|(symm;rw [decide_eq_false_iff_not];intro hk;simp only [Sg.ok_iff,okS_iff]at hk;first|omega|simp_all)|(rw [Bool.eq_iff_iff];simp only [decide_eq_true_eq,Sg.ok_iff,okS_iff,h35,h37,true_and];omega))
                     try simp only [NRM]at h37
                     have q1:okR s.fn s.fd:=h35
                     have q2:okR s.tn s.td:=h37
                     unfold okR at q1 q2
                     have m1:=mul_small (a:=s.fn) (b:=s.td) (by omega) (by omega) (by omega) (by omega)
                     have m2:=mul_small (a:=s.tn) (b:=s.fd) (by omega) (by omega) (by omega) (by omega)
                     refine SX.E (.int .i64 (s.fn*s.td)) (fun α=>SX.W (s.fn*s.td)) ?_
                     refine SX.E (.int .i64 (s.tn*s.fd)) (fun α=>SX.W (s.tn*s.fd)) ?_
                     refine SX.D (.bool ((s.fn*s.td:Int) != s.fn*s.td)) ?_
                     refine SX.D (.bool ((s.tn*s.fd:Int) != s.tn*s.fd)) ?_
                     refine SX.B ((s.fn*s.td:Int) != s.fn*s.td) (fun h40=>by simp at h40) (fun h40=>?_)
                     try simp only [NRM]at h40
                     refine SX.B ((s.tn*s.fd:Int) != s.tn*s.fd) (fun h41=>by simp at h41) (fun h41=>?_)
                     try simp only [NRM]at h41
                     refine SX.D (.bool (decide (s.fn*s.td<s.tn*s.fd))) ?_
                     refine SX.B (decide (s.fn*s.td<s.tn*s.fd)) (fun h42=>?_) (fun h42=>?_)
                     ·try simp only [NRM]at h42
                      refine SX.D (.bool (decide (s.fn≥0))) ?_
                      refine SX.B (decide (s.fn≥0)) (fun h43=>?_) (fun h43=>?_)
                      ·try simp only [NRM]at h43
                       refine SX.D (.bool (decide (s.tn≤s.td))) ?_
                       exact SX.F (.bool (decide (s.tn≤s.td))) (by congr 1;first|(symm;rw [decide_eq_false_iff_not];intro hk;simp only [Sg.ok_iff,okS_iff]at hk;first|omega|simp_all)|(rw [Bool.eq_iff_iff];simp only [decide_eq_true_eq,Sg.ok_iff,okS_iff,h35,h37,true_and];omega))
                      try simp only [NRM]at h43
                      exact SX.F (.bool false) (by congr 1;first|(symm;rw [decide_eq_false_iff_not];intro hk;simp only [Sg.ok_iff,okS_iff]at hk;first|omega|simp_all)|(rw [Bool.eq_iff_iff];simp only [decide_eq_true_eq,Sg.ok_iff,okS_iff,h35,h37,true_and];omega))
                     try simp only [NRM]at h42
                     refine SX.D (.bool (decide (s.fn*s.td>s.tn*s.fd))) ?_
                     refine SX.B (decide (s.fn*s.td>s.tn*s.fd)) (fun h43=>?_) (fun h43=>?_)
                     ·try simp only [NRM]at h43
                      exact SX.F (.bool false) (by congr 1;first|(symm;rw [decide_eq_false_iff_not];intro hk;simp only [Sg.ok_iff,okS_iff]at hk;first|omega|simp_all)|(rw [Bool.eq_iff_iff];simp only [decide_eq_true_eq,Sg.ok_iff,okS_iff,h35,h37,true_and];omega))
                     try simp only [NRM]at h43
                     exact SX.F (.bool false) (by congr 1;first|(symm;rw [decide_eq_false_iff_not];intro hk;simp only [Sg.ok_iff,okS_iff]at hk;first|omega|simp_all)|(rw [Bool.eq_iff_iff];simp only [decide_eq_true_eq,Sg.ok_iff,okS_iff,h35,h37,true_and];omega))
                    try simp only [NRM]at h33
                    exact SX.F (.bool false) (by congr 1;first|(symm;rw [decide_eq_false_iff_not];intro hk;simp only [Sg.ok_iff,okS_iff]at hk;first|omega|simp_all)|(rw [Bool.eq_iff_iff];simp only [decide_eq_true_eq,Sg.ok_iff,okS_iff,h35,h37,true_and];omega))
                   try simp only [NRM]at h32
                   exact SX.F (.bool false) (by congr 1;first|(symm;rw [decide_eq_false_iff_not];intro hk;simp only [Sg.ok_iff,okS_iff]at hk;first|omega|simp_all)|(rw [Bool.eq_iff_iff];simp only [decide_eq_true_eq,Sg.ok_iff,okS_iff,h35,h37,true_and];omega))
                  try simp only [NRM]at h31
                  exact SX.F (.bool false) (by congr 1;first|(symm;rw [decide_eq_false_iff_not];intro hk;simp only [Sg.ok_iff,okS_iff]at hk;first|omega|simp_all)|(rw [Bool.eq_iff_iff];simp only [decide_eq_true_eq,Sg.ok_iff,okS_iff,h35,h37,true_and];omega))
                 try simp only [NRM]at h30
                 exact SX.F (.bool false) (by congr 1;first|(symm;rw [decide_eq_false_iff_not];intro hk;simp only [Sg.ok_iff,okS_iff]at hk;first|omega|simp_all)|(rw [Bool.eq_iff_iff];simp only [decide_eq_true_eq,Sg.ok_iff,okS_iff,h35,h37,true_and];omega))
                try simp only [NRM]at h29
                exact SX.F (.bool false) (by congr 1;first|(symm;rw [decide_eq_false_iff_not];intro hk;simp only [Sg.ok_iff,okS_iff]at hk;first|omega|simp_all)|(rw [Bool.eq_iff_iff];simp only [decide_eq_true_eq,Sg.ok_iff,okS_iff,h35,h37,true_and];omega))
               try simp only [NRM]at h28
               exact SX.F (.bool false) (by congr 1;first|(symm;rw [decide_eq_false_iff_not];intro hk;simp only [Sg.ok_iff,okS_iff]at hk;first|omega|simp_all)|(rw [Bool.eq_iff_iff];simp only [decide_eq_true_eq,Sg.ok_iff,okS_iff,h35,h37,true_and];omega))
              try simp only [NRM]at h27
              exact SX.F (.bool false) (by congr 1;first|(symm;rw [decide_eq_false_iff_not];intro hk;simp only [Sg.ok_iff,okS_iff]at hk;first|omega|simp_all)|(rw [Bool.eq_iff_iff];simp only [decide_eq_true_eq,Sg.ok_iff,okS_iff,h35,h37,true_and];omega))
             try simp only [NRM]at h26
             exact SX.F (.bool false) (by congr 1;first|(symm;rw [decide_eq_false_iff_not];intro hk;simp only [Sg.ok_iff,okS_iff]at hk;first|omega|simp_all)|(rw [Bool.eq_iff_iff];simp only [decide_eq_true_eq,Sg.ok_iff,okS_iff,h35,h37,true_and];omega))
            try simp only [NRM]at h25
            exact SX.F (.bool false) (by congr 1;first|(symm;rw [decide_eq_false_iff_not];intro hk;simp only [Sg.ok_iff,okS_iff]at hk;first|omega|simp_all)|(rw [Bool.eq_iff_iff];simp only [decide_eq_true_eq,Sg.ok_iff,okS_iff,h35,h37,true_and];omega))
           try simp only [NRM]at h24
           exact SX.F (.bool false) (by congr 1;first|(symm;rw [decide_eq_false_iff_not];intro hk;simp only [Sg.ok_iff,okS_iff]at hk;first|omega|simp_all)|(rw [Bool.eq_iff_iff];simp only [decide_eq_true_eq,Sg.ok_iff,okS_iff,h35,h37,true_and];omega))
          try simp only [NRM]at h23
          exact SX.F (.bool false) (by congr 1;first|(symm;rw [decide_eq_false_iff_not];intro hk;simp only [Sg.ok_iff,okS_iff]at hk;first|omega|simp_all)|(rw [Bool.eq_iff_iff];simp only [decide_eq_true_eq,Sg.ok_iff,okS_iff,h35,h37,true_and];omega))
         try simp only [NRM]at h22
         exact SX.F (.bool false) (by congr 1;first|(symm;rw [decide_eq_false_iff_not];intro hk;simp only [Sg.ok_iff,okS_iff]at hk;first|omega|simp_all)|(rw [Bool.eq_iff_iff];simp only [decide_eq_true_eq,Sg.ok_iff,okS_iff,h35,h37,true_and];omega))
        try simp only [NRM]at h21
        exact SX.F (.bool false) (by congr 1;first|(symm;rw [decide_eq_false_iff_not];intro hk;simp only [Sg.ok_iff,okS_iff]at hk;first|omega|simp_all)|(rw [Bool.eq_iff_iff];simp only [decide_eq_true_eq,Sg.ok_iff,okS_iff,h35,h37,true_and];omega))
       try simp only [NRM]at h20
       exact SX.F (.bool false) (by congr 1;first|(symm;rw [decide_eq_false_iff_not];intro hk;simp only [Sg.ok_iff,okS_iff]at hk;first|omega|simp_all)|(rw [Bool.eq_iff_iff];simp only [decide_eq_true_eq,Sg.ok_iff,okS_iff,h35,h37,true_and];omega))
      try simp only [NRM]at h19
      exact SX.F (.bool false) (by congr 1;first|(symm;rw [decide_eq_false_iff_not];intro hk;simp only [Sg.ok_iff,okS_iff]at hk;first|omega|simp_all)|(rw [Bool.eq_iff_iff];simp only [decide_eq_true_eq,Sg.ok_iff,okS_iff,h35,h37,true_and];omega))
     try simp only [NRM]at h18
     exact SX.F (.bool false) (by congr 1;first|(symm;rw [decide_eq_false_iff_not];intro hk;simp only [Sg.ok_iff,okS_iff]at hk;first|omega|simp_all)|(rw [Bool.eq_iff_iff];simp only [decide_eq_true_eq,Sg.ok_iff,okS_iff,h35,h37,true_and];omega))
    try simp only [NRM]at h17
    exact SX.F (.bool false) (by congr 1;first|(symm;rw [decide_eq_false_iff_not];intro hk;simp only [Sg.ok_iff,okS_iff]at hk;first|omega|simp_all)|(rw [Bool.eq_iff_iff];simp only [decide_eq_true_eq,Sg.ok_iff,okS_iff,h35,h37,true_and];omega))
   try simp only [NRM]at h16
   exact SX.F (.bool false) (by congr 1;first|(symm;rw [decide_eq_false_iff_not];intro hk;simp only [Sg.ok_iff,okS_iff]at hk;first|omega|simp_all)|(rw [Bool.eq_iff_iff];simp only [decide_eq_true_eq,Sg.ok_iff,okS_iff,h35,h37,true_and];omega))
  try simp only [NRM]at h15
  exact SX.F (.bool false) (by congr 1;first|(symm;rw [decide_eq_false_iff_not];intro hk;simp only [Sg.ok_iff,okS_iff]at hk;first|omega|simp_all)|(rw [Bool.eq_iff_iff];simp only [decide_eq_true_eq,Sg.ok_iff,okS_iff,h35,h37,true_and];omega))
 try simp only [NRM]at h14
 exact SX.F (.bool false) (by congr 1;first|(symm;rw [decide_eq_false_iff_not];intro hk;simp only [Sg.ok_iff,okS_iff]at hk;first|omega|simp_all)|(rw [Bool.eq_iff_iff];simp only [decide_eq_true_eq,Sg.ok_iff,okS_iff,h35,h37,true_and];omega))
def sgsL(l:List Sg):List Value:=l.flatMap cellsSg
def okL(ss:List Sg):Prop:=(∀ s∈ss,s.ok)∧ss.Pairwise (fun a b=>a.id<b.id)
instance (ss:List Sg):Decidable (okL ss):=by unfold okL;infer_instance
def chkS(ss:List Sg):Int:=if 4096<ss.length then 2 else if okL ss then 0 else 360
theorem okL_take{ss:List Sg}{i:Nat}{z:Sg}(hz:ss[i]?=some z):okL (ss.take (i+1))↔okL (ss.take i)∧z.ok∧∀ y,0<i→ss[i-1]?=some y→y.id<z.id:=by
 have hi:=(List.getElem?_eq_some_iff.1 hz).1
 rw [List.take_add_one,hz]
 simp only [Option.toList_some,okL,List.mem_append,List.mem_singleton,List.pairwise_append,List.pairwise_singleton,forall_eq]
 constructor
 ·rintro⟨h1,h2,-,h3⟩
  refine⟨⟨fun s hs=>h1 s (.inl hs),h2⟩,h1 z (.inr rfl),fun y hi0 hy=>h3 y ?_⟩
  exact List.mem_of_getElem? (i:=i-1) (by rw [List.getElem?_take,if_pos (by omega)];exact hy)
 rintro⟨⟨h1,h2⟩,h3,h4⟩
 refine⟨fun s hs=>hs.elim (h1 s) fun e=>e▸h3,h2,trivial,fun y hy=>?_⟩
 obtain⟨j,hj⟩:=List.mem_iff_getElem?.1 hy
 rw [List.getElem?_take]at hj
 split at hj
 ·rename_i hji
  have hl:=h4 (ss[i-1]'(by omega)) (by omega) (List.getElem?_eq_getElem _)
  by_cases he:j=i-1
  ·subst he
   rw [List.getElem?_eq_getElem (by omega)]at hj
   have hj:ss[i-1]'(by omega)=y:=by simpa using hj
   rw [← hj];exact hl
  ·have:=List.pairwise_iff_getElem.1 h2 j (i-1) (by simp;omega) (by simp;omega) (by omega)
   simp only [List.getElem_take]at this
   obtain⟨hjl,hj⟩:=List.getElem?_eq_some_iff.1 hj
   rw [hj]at this
   omega
 cases hj
theorem okL_le{ss:List Sg}(h:okL ss)(i:Nat):okL (ss.take i):=⟨fun s hs=>h.1 s (List.mem_of_mem_take hs),h.2.sublist (List.take_sublist _ _)⟩
theorem okL_no{ss:List Sg}{i:Nat}(h:¬ okL (ss.take i)):¬ okL ss:=fun hk=>h (okL_le hk i)
theorem okL_z{ss:List Sg}{i:Nat}{z:Sg}(hz:ss[i]?=some z)(h:¬ z.ok):¬ okL ss:=fun hk=>h (hk.1 z (List.mem_of_getElem? hz))
theorem okL_yz{ss:List Sg}{i:Nat}{y z:Sg}(hz:ss[i]?=some z)(hi:0<i)(hy:ss[i-1]?=some y)(h:¬ y.id<z.id):¬ okL ss:=okL_no (i:=i+1) fun hk=>h (((okL_take hz).1 hk).2.2 y hi hy)
theorem sgsL_len(l:List Sg):(sgsL l).length=l.length*14:=SX.flat_len (f:=cellsSg) (fun _=>rfl) l
def RC0(f:FuncId)(xs:List SX.Arg)(v:Value):Prop :=
 (f=86∧∃ s:Sg,xs=[⟨valSg s,0,[]⟩]∧v=.bool (decide s.ok)) ∨
 (f=38∧∃ s:Sg,xs=[⟨valSg s,0,[]⟩]∧v=.bool (decide s.ok))
def shpC0:FuncId→Option SX.Sh:=fun f=>if f=86 then some .one else if f=38 then some .one else none
noncomputable def cxC0(K A:Value→Nat→List Value→Prop):SX.Cx:={ P:=Try.prog,R:=fun _=>RC0,shp:=shpC0,K:=K,A:=A }
theorem okC0(K A:Value→Nat→List Value→Prop):(cxC0 K A).Ok:=by
 refine SX.Cx.ok_of (fun _=>rfl) ?_
 intro K f xs v W hR hrd hKf
 rcases hR with ⟨rfl,s,rfl,rfl⟩|⟨rfl,s,rfl,rfl⟩
 ·exact(Form_any s W).mono fun e w' h=>SX.plainOk rfl h
 exact(form_any s W).mono fun e w' h=>SX.plainOk rfl h
def tree_echeck:SX.Tree :=
(.df (.len false) [(.q 0)] .one
(.df (.bin .gtr 3) [(.q 1),(.i 4096)] .one
(.br 2 []
(.ret (.i 2) [] [])
(.df (.len false) [(.q 0)] .one
(.loop [(.i 0)] [.one]
(.df (.bin .lss 3) [(.q 4),(.q 3)] .one
(.br 5 []
(.df .bnd [(.q 0),(.q 4)] .one
(.df (.elems 14 0 14) [(.q 0),(.q 4)] (.ag 14)
(.df (.call 38 [.no]) [(.a (SX.Y 7 0 14))] .one
(.df .not [(.q 8)] .one
(.br 9 []
(.ret (.i 360) [] [])
(.df (.bin .gtr 3) [(.q 4),(.i 0)] .one
(.br 10 []
(.df (.bin .sub 3) [(.q 4),(.i 1)] .one
(.df .bnd [(.q 0),(.q 11)] .one
(.df .bnd [(.q 0),(.q 11)] .one
(.df (.elem 14 0) [(.q 0),(.q 11)] .one
(.df (.bin .geq 3) [(.q 14),(.x 7 [0])] .one
(.br 15 []
(.ret (.i 360) [] [])
(.df (.bin .add 3) [(.q 4),(.i 1)] .one
(.again 0 [(.q 16)]))))))))
(.df (.bin .add 3) [(.q 4),(.i 1)] .one
(.again 0 [(.q 11)])))))))))
(.ret (.i 0) [] []))))))))
def args_echeck:List SX.V:=[.x 0 []]
set_option maxRecDepth 100000 in
theorem run_echeck(K A:Value→Nat→List Value→Prop):(SX.run (cxC0 K A) ⟨fun _=>false,[⟨14,4,[(.s 10,.one)]⟩],0,100⟩ 100000 0 (SX.door 14 Try.f14 args_echeck [.one]) [.code (Try.f14.body.getD .skip),.top Try.f14]).strip=tree_echeck:=by kernel_rfl
set_option maxRecDepth 100000 in
set_option maxHeartbeats 4000000 in
theorem echeck_any(ss:List Sg)(A:Option Addr)(n c:Nat)(w:World)(hr:Rd w 14 A n (sgsL ss))(hn:n≤9223372036854775807)(hc:n≤c):Calls Try.prog 14 #[.slice A n c] w fun e w'=>e=.returned (.int .i64 (chkS ss))∧Below w.heap.size w w':=by
 refine SX.calls_of_run (C:=cxC0 (fun s sz cells=>s=.slice A n c∧sz=14∧cells=sgsL ss) (fun _ _ _=>False)) (G:=⟨fun _=>false,[⟨14,4,[(.s 10,.one)]⟩],0,100⟩) (args:=args_echeck) (sh:=[.one]) (ρ:=[.slice A n c]) 100000 tree_echeck (okC0 _ _) Try.func14 rfl (run_echeck _ _) (by kernel_rfl) (by kernel_rfl) (by kernel_rfl) ?_ ?_
 ·rintro W hW s sz cells ⟨rfl,rfl,rfl⟩;exact⟨hr.same0 hW,hc⟩
 have hA:=SX.rd_some hr
 have hln:ss.length=n:=by have:=hr.1;rw [sgsL_len]at this;omega
 unfold tree_echeck
 refine SX.D (.int .i64 (((n:Nat):Int))) ?_
 refine SX.D (.bool (decide (((n:Nat):Int)>4096))) ?_
 refine SX.B (decide (((n:Nat):Int)>4096)) (fun h2=>?_) (fun h2=>?_)
 ·try simp only [NRM]at h2
  exact SX.F (.int .i64 2) (by first|(rw [chkS,if_pos (by omega)])|(rw [chkS,if_neg (by omega),if_neg (okL_z hz h9)])|(rw [chkS,if_neg (by omega),if_neg (okL_yz hz (by omega) hy (by omega))])|(have hi:i=n:=(by omega);subst hi;rw [List.take_of_length_le (by omega)]at hok;rw [chkS,if_neg (by omega),if_pos hok]))
 try simp only [NRM]at h2
 refine SX.D (.int .i64 (((n:Nat):Int))) ?_
 refine SX.VC_loop (fun xs=>∃ i:Nat,xs=[.int .i64 (i:Int)]∧i≤n∧okL (ss.take i)) (fun xs=>match xs with|[.int _ i]=>n-i.toNat|_=>0) (fun α=>⟨0,by kernel_rfl,by omega,by simp [okL]⟩) ?_
 rintro xs-⟨i,rfl,hin,hok⟩
 refine SX.D (.bool (decide (((i:Nat):Int)<((n:Nat):Int)))) ?_
 refine SX.B (decide (((i:Nat):Int)<((n:Nat):Int))) (fun h5=>?_) (fun h5=>?_)
 ·try simp only [NRM]at h5
  obtain⟨z,hz⟩:∃ z,ss[i]?=some z:=⟨_,List.getElem?_eq_getElem (by omega)⟩
  refine SX.E (.bool true) (fun α=>SX.extBnd (A:=A) (n:=n) (c:=c) (j:=i) hA (by kernel_rfl) (by kernel_rfl) (by omega)) ?_
  refine SX.E (.agg (cellsSg z).toArray) (fun α=>SX.extElems (f:=cellsSg) (l:=ss) (A:=A) (n:=n) (c:=c) (j:=i) (z:=z) (fun _=>rfl) hA (by kernel_rfl) (by kernel_rfl) (by omega) ⟨rfl,rfl,rfl⟩ hz) ?_
  refine SX.E (.bool (decide z.ok)) (fun α=>⟨[⟨valSg z,0,[]⟩],⟨by kernel_rfl,by kernel_rfl,trivial⟩,.inr (⟨rfl,z,rfl,rfl⟩),SX.noAli rfl⟩) ?_
  refine SX.D (.bool (!(decide z.ok))) ?_
  refine SX.B (!(decide z.ok)) (fun h9=>?_) (fun h9=>?_)
  ·try simp only [NRM]at h9
   exact SX.F (.int .i64 360) (by first|(rw [chkS,if_pos (by omega)])|(rw [chkS,if_neg (by omega),if_neg (okL_z hz h9)])|(rw [chkS,if_neg (by omega),if_neg (okL_yz hz (by omega) hy (by omega))])|(have hi:i=n:=(by omega);subst hi;rw [List.take_of_length_le (by omega)]at hok;rw [chkS,if_neg (by omega),if_pos hok]))
  try simp only [NRM]at h9
  refine SX.D (.bool (decide (((i:Nat):Int)>0))) ?_
  refine SX.B (decide (((i:Nat):Int)>0)) (fun h10=>?_) (fun h10=>?_)
  ·try simp only [NRM]at h10
   obtain⟨y,hy⟩:∃ y,ss[i-1]?=some y:=⟨_,List.getElem?_eq_getElem (by omega)⟩
   refine SX.E (.int .i64 (((i-1:Nat):Int))) (fun α=>Eq.trans (b:=some (.int .i64 (IntKind.i64.wrap ((i:Int)-1)))) (by kernel_rfl) (by rw [show((i-1:Nat):Int)=(i:Int)-1 by omega,wrap_i64 (by omega) (by omega)])) ?_
   refine SX.E (.bool true) (fun α=>SX.extBnd (A:=A) (n:=n) (c:=c) (j:=i-1) hA (by kernel_rfl) (by kernel_rfl) (by omega)) ?_
   refine SX.E (.bool true) (fun α=>SX.extBnd (A:=A) (n:=n) (c:=c) (j:=i-1) hA (by kernel_rfl) (by kernel_rfl) (by omega)) ?_
   refine SX.E (.int .i64 y.id) (fun α=>SX.extElem (o:=0) (v:=.int .i64 y.id) (f:=cellsSg) (l:=ss) (A:=A) (n:=n) (c:=c) (j:=i-1) (z:=y) (fun _=>rfl) hA (by kernel_rfl) (by kernel_rfl) (by omega) ⟨rfl,rfl,rfl⟩ hy (by decide) (by kernel_rfl)) ?_
   refine SX.D (.bool (decide (y.id≥z.id))) ?_
   refine SX.B (decide (y.id≥z.id)) (fun h15=>?_) (fun h15=>?_)
   ·try simp only [NRM]at h15
    exact SX.F (.int .i64 360) (by first|(rw [chkS,if_pos (by omega)])|(rw [chkS,if_neg (by omega),if_neg (okL_z hz h9)])|(rw [chkS,if_neg (by omega),if_neg (okL_yz hz (by omega) hy (by omega))])|(have hi:i=n:=(by omega);subst hi;rw [List.take_of_length_le (by omega)]at hok;rw [chkS,if_neg (by omega),if_pos hok]))
   try simp only [NRM]at h15
   refine SX.E (.int .i64 (((i+1:Nat):Int))) (fun α=>SX.W1 i) ?_
   exact SX.VC_again fun α=>⟨⟨i+1,by kernel_rfl,by omega,(okL_take hz).2 ⟨hok,h9,fun y' h0 hy'=>by rw [hy]at hy';cases hy';omega⟩⟩,cast (by kernel_rfl) (show n-((i+1:Nat):Int).toNat<n-(i:Int).toNat by omega)⟩
  try simp only [NRM]at h10
  refine SX.E (.int .i64 (((i+1:Nat):Int))) (fun α=>SX.W1 i) ?_
  exact SX.VC_again fun α=>⟨⟨i+1,by kernel_rfl,by omega,(okL_take hz).2 ⟨hok,h9,fun y' h0 hy'=>absurd h0 (by omega)⟩⟩,cast (by kernel_rfl) (show n-((i+1:Nat):Int).toNat<n-(i:Int).toNat by omega)⟩
 try simp only [NRM]at h5
 exact SX.F (.int .i64 0) (by first|(rw [chkS,if_pos (by omega)])|(rw [chkS,if_neg (by omega),if_neg (okL_z hz h9)])|(rw [chkS,if_neg (by omega),if_neg (okL_yz hz (by omega) hy (by omega))])|(have hi:i=n:=(by omega);subst hi;rw [List.take_of_length_le (by omega)]at hok;rw [chkS,if_neg (by omega),if_pos hok]))
def tree_right:SX.Tree :=
(.loop [(.i 0)] [.one]
(.df (.len false) [(.q 0)] .one
(.df (.bin .lss 3) [(.q 1),(.q 2)] .one
(.br 3 []
(.df .bnd [(.q 0),(.q 1)] .one
(.df (.elems 14 0 14) [(.q 0),(.q 1)] (.ag 14)
(.df (.call 86 [.no]) [(.a (SX.Y 5 0 14))] .one
(.df .not [(.q 6)] .one
(.br 7 []
(.ret (.k (.bool false)) [] [])
(.df (.bin .gtr 3) [(.q 1),(.i 0)] .one
(.br 8 []
(.df .bnd [(.q 0),(.q 1)] .one
(.df .bnd [(.q 0),(.q 1)] .one
(.df (.elem 14 0) [(.q 0),(.q 1)] .one
(.df (.bin .sub 3) [(.q 1),(.i 1)] .one
(.df .bnd [(.q 0),(.q 12)] .one
(.df .bnd [(.q 0),(.q 12)] .one
(.df (.elem 14 0) [(.q 0),(.q 12)] .one
(.df (.bin .leq 3) [(.q 11),(.q 15)] .one
(.br 16 []
(.ret (.k (.bool false)) [] [])
(.df (.bin .add 3) [(.q 1),(.i 1)] .one
(.again 0 [(.q 17)])))))))))))
(.df (.bin .add 3) [(.q 1),(.i 1)] .one
(.again 0 [(.q 9)])))))))))
(.ret (.k (.bool true)) [] [])))))
def args_right:List SX.V:=[.x 0 []]
set_option maxRecDepth 100000 in
theorem run_right(K A:Value→Nat→List Value→Prop):(SX.run (cxC0 K A) ⟨fun _=>false,[⟨39,2,[(.s 3,.one)]⟩],0,100⟩ 100000 0 (SX.door 39 Try.f39 args_right [.one]) [.code (Try.f39.body.getD .skip),.top Try.f39]).strip=tree_right:=by kernel_rfl
set_option maxRecDepth 100000 in
set_option maxHeartbeats 4000000 in
theorem right_any(ss:List Sg)(A:Option Addr)(n c:Nat)(w:World)(hr:Rd w 14 A n (sgsL ss))(hn:n≤9223372036854775807)(hc:n≤c):Calls Try.prog 39 #[.slice A n c] w fun e w'=>e=.returned (.bool (decide (okL ss)))∧Below w.heap.size w w':=by
 refine SX.calls_of_run (C:=cxC0 (fun s sz cells=>s=.slice A n c∧sz=14∧cells=sgsL ss) (fun _ _ _=>False)) (G:=⟨fun _=>false,[⟨39,2,[(.s 3,.one)]⟩],0,100⟩) (args:=args_right) (sh:=[.one]) (ρ:=[.slice A n c]) 100000 tree_right (okC0 _ _) Try.func39 rfl (run_right _ _) (by kernel_rfl) (by kernel_rfl) (by kernel_rfl) ?_ ?_
 ·rintro W hW s sz cells ⟨rfl,rfl,rfl⟩;exact⟨hr.same0 hW,hc⟩
 have hA:=SX.rd_some hr
 have hln:ss.length=n:=by have:=hr.1;rw [sgsL_len]at this;omega
 unfold tree_right
 refine SX.VC_loop (fun xs=>∃ i:Nat,xs=[.int .i64 (i:Int)]∧i≤n∧okL (ss.take i)) (fun xs=>match xs with|[.int _ i]=>n-i.toNat|_=>0) (fun α=>⟨0,by kernel_rfl,by omega,by simp [okL]⟩) ?_
 rintro xs-⟨i,rfl,hin,hok⟩
 refine SX.D (.int .i64 (((n:Nat):Int))) ?_
 refine SX.D (.bool (decide (((i:Nat):Int)<((n:Nat):Int)))) ?_
 refine SX.B (decide (((i:Nat):Int)<((n:Nat):Int))) (fun h3=>?_) (fun h3=>?_)
 ·try simp only [NRM]at h3
  obtain⟨z,hz⟩:∃ z,ss[i]?=some z:=⟨_,List.getElem?_eq_getElem (by omega)⟩
  refine SX.E (.bool true) (fun α=>SX.extBnd (A:=A) (n:=n) (c:=c) (j:=i) hA (by kernel_rfl) (by kernel_rfl) (by omega)) ?_
  refine SX.E (.agg (cellsSg z).toArray) (fun α=>SX.extElems (f:=cellsSg) (l:=ss) (A:=A) (n:=n) (c:=c) (j:=i) (z:=z) (fun _=>rfl) hA (by kernel_rfl) (by kernel_rfl) (by omega) ⟨rfl,rfl,rfl⟩ hz) ?_
  refine SX.E (.bool (decide z.ok)) (fun α=>⟨[⟨valSg z,0,[]⟩],⟨by kernel_rfl,by kernel_rfl,trivial⟩,.inl ⟨rfl,z,rfl,rfl⟩,SX.noAli rfl⟩) ?_
  refine SX.D (.bool (!(decide z.ok))) ?_
  refine SX.B (!(decide z.ok)) (fun h7=>?_) (fun h7=>?_)
  ·try simp only [NRM]at h7
   exact SX.F (.bool false) (by congr 1;symm;first|(rw [decide_eq_false_iff_not];exact okL_z hz h7)|(rw [decide_eq_false_iff_not];exact okL_yz hz (by omega) hy (by omega))|(have hi:i=n:=(by omega);subst hi;rw [List.take_of_length_le (by omega)]at hok;rw [decide_eq_true_eq];exact hok))
  try simp only [NRM]at h7
  refine SX.D (.bool (decide (((i:Nat):Int)>0))) ?_
  refine SX.B (decide (((i:Nat):Int)>0)) (fun h8=>?_) (fun h8=>?_)
  ·try simp only [NRM]at h8
   refine SX.E (.bool true) (fun α=>SX.extBnd (A:=A) (n:=n) (c:=c) (j:=i) hA (by kernel_rfl) (by kernel_rfl) (by omega)) ?_
   refine SX.E (.bool true) (fun α=>SX.extBnd (A:=A) (n:=n) (c:=c) (j:=i) hA (by kernel_rfl) (by kernel_rfl) (by omega)) ?_
   refine SX.E (.int .i64 z.id) (fun α=>SX.extElem (o:=0) (v:=.int .i64 z.id) (f:=cellsSg) (l:=ss) (A:=A) (n:=n) (c:=c) (j:=i) (z:=z) (fun _=>rfl) hA (by kernel_rfl) (by kernel_rfl) (by omega) ⟨rfl,rfl,rfl⟩ hz (by decide) (by kernel_rfl)) ?_
   obtain⟨y,hy⟩:∃ y,ss[i-1]?=some y:=⟨_,List.getElem?_eq_getElem (by omega)⟩
   refine SX.E (.int .i64 (((i-1:Nat):Int))) (fun α=>Eq.trans (b:=some (.int .i64 (IntKind.i64.wrap ((i:Int)-1)))) (by kernel_rfl) (by rw [show((i-1:Nat):Int)=(i:Int)-1 by omega,wrap_i64 (by omega) (by omega)])) ?_
   refine SX.E (.bool true) (fun α=>SX.extBnd (A:=A) (n:=n) (c:=c) (j:=i-1) hA (by kernel_rfl) (by kernel_rfl) (by omega)) ?_
   refine SX.E (.bool true) (fun α=>SX.extBnd (A:=A) (n:=n) (c:=c) (j:=i-1) hA (by kernel_rfl) (by kernel_rfl) (by omega)) ?_
   refine SX.E (.int .i64 y.id) (fun α=>SX.extElem (o:=0) (v:=.int .i64 y.id) (f:=cellsSg) (l:=ss) (A:=A) (n:=n) (c:=c) (j:=i-1) (z:=y) (fun _=>rfl) hA (by kernel_rfl) (by kernel_rfl) (by omega) ⟨rfl,rfl,rfl⟩ hy (by decide) (by kernel_rfl)) ?_
   refine SX.D (.bool (decide (z.id≤y.id))) ?_
   refine SX.B (decide (z.id≤y.id)) (fun h16=>?_) (fun h16=>?_)
   ·try simp only [NRM]at h16
    exact SX.F (.bool false) (by congr 1;symm;first|(rw [decide_eq_false_iff_not];exact okL_z hz h7)|(rw [decide_eq_false_iff_not];exact okL_yz hz (by omega) hy (by omega))|(have hi:i=n:=(by omega);subst hi;rw [List.take_of_length_le (by omega)]at hok;rw [decide_eq_true_eq];exact hok))
   try simp only [NRM]at h16
   refine SX.E (.int .i64 (((i+1:Nat):Int))) (fun α=>SX.W1 i) ?_
   exact SX.VC_again fun α=>⟨⟨i+1,by kernel_rfl,by omega,(okL_take hz).2 ⟨hok,h7,fun y' h0 hy'=>by rw [hy]at hy';cases hy';omega⟩⟩,cast (by kernel_rfl) (show n-((i+1:Nat):Int).toNat<n-(i:Int).toNat by omega)⟩
  try simp only [NRM]at h8
  refine SX.E (.int .i64 (((i+1:Nat):Int))) (fun α=>SX.W1 i) ?_
  exact SX.VC_again fun α=>⟨⟨i+1,by kernel_rfl,by omega,(okL_take hz).2 ⟨hok,h7,fun y' h0 hy'=>absurd h0 (by omega)⟩⟩,cast (by kernel_rfl) (show n-((i+1:Nat):Int).toNat<n-(i:Int).toNat by omega)⟩
 try simp only [NRM]at h3
 exact SX.F (.bool true) (by congr 1;symm;first|(rw [decide_eq_false_iff_not];exact okL_z hz h7)|(rw [decide_eq_false_iff_not];exact okL_yz hz (by omega) hy (by omega))|(have hi:i=n:=(by omega);subst hi;rw [List.take_of_length_le (by omega)]at hok;rw [decide_eq_true_eq];exact hok))
def makeS(n d:Int):Int×Int×Int :=
 if d=0 then(0,0,120)else
 if 1073741824<max (n.natAbs / Nat.gcd n.natAbs d.natAbs) (d.natAbs / Nat.gcd n.natAbs d.natAbs)then(0,0,2)else
 (if(n<0)↔(d<0)then(n.natAbs / Nat.gcd n.natAbs d.natAbs:Nat)else -((n.natAbs / Nat.gcd n.natAbs d.natAbs:Nat):Int),(d.natAbs / Nat.gcd n.natAbs d.natAbs:Nat),0)
def mulS(an ad bn bd:Int):Int×Int×Int:=if okR an ad∧okR bn bd then makeS (an*bn) (ad*bd)else(0,0,120)
def RE0(f:FuncId)(xs:List SX.Arg)(v:Value):Prop :=
 (f=100∧∃ n:Int,xs=[⟨.int .i64 n,0,[]⟩]∧-4611686018427387904≤n∧n≤4611686018427387904∧v=.int .u64 n.natAbs) ∨
 (f=99∧∃ a b:Nat,xs=[⟨.int .u64 a,0,[]⟩,⟨.int .u64 b,0,[]⟩]∧a≤4611686018427387904∧b≤4611686018427387904∧v=.int .u64 (Nat.gcd a b))
def shpE0:FuncId→Option SX.Sh:=fun f=>if f=100 then some .one else if f=99 then some .one else none
noncomputable def cxE0(K A:Value→Nat→List Value→Prop):SX.Cx:={ P:=Try.prog,R:=fun _=>RE0,shp:=shpE0,K:=K,A:=A }
theorem okE0(K A:Value→Nat→List Value→Prop):(cxE0 K A).Ok:=by
 refine SX.Cx.ok_of (fun _=>rfl) ?_
 intro K f xs v W hR hrd hKf
 rcases hR with ⟨rfl,n,rfl,h1,h2,rfl⟩|⟨rfl,a,b,rfl,h1,h2,rfl⟩
 ·exact(mag_any n W h1 h2).mono fun e w' h=>SX.plainOk rfl h
 exact(pdiv_any a b W h1 h2).mono fun e w' h=>SX.plainOk rfl h
theorem quo_nat{a b:Nat}(h:0<b)(ha:a≤4611686018427387904):SX.binV .quo (.int .u64 (a:Int)) (.int .u64 (b:Int))=some (.int .u64 ((a / b:Nat):Int)):=by
 have h1:a / b≤a:=Nat.div_le_self _ _
 have h2:(a:Int).tdiv (b:Int)=((a / b:Nat):Int):=by
  rw [Int.tdiv_eq_ediv_of_nonneg (by omega)];rfl
 generalize a / b=q at h1 h2
 simp only [SX.binV,if_true,h2]
 rw [if_neg (by omega),wrap_u64 (by omega) (by omega)]
theorem max_nat(a b:Nat):SX.maxV (.int .u64 (a:Int)) (.int .u64 (b:Int))=some (.int .u64 ((max a b:Nat):Int)):=by
 simp only [SX.maxV,if_true]
 congr 2
 show maxI _ _=_
 unfold maxI
 split<;>omega
def tree_make:SX.Tree :=
(.df (.bin .eql 3) [(.q 1),(.i 0)] .one
(.br 2 []
(.ret (.t [(.a [(.i 0),(.i 0)]),(.i 120)]) [] [])
(.df (.call 100 [.no]) [(.q 0)] .one
(.df (.call 100 [.no]) [(.q 1)] .one
(.df (.call 99 [.no,.no]) [(.q 3),(.q 4)] .one
(.df (.bin .quo 101) [(.q 3),(.q 5)] .one
(.df (.bin .quo 101) [(.q 4),(.q 5)] .one
(.df .max [(.q 6),(.q 7)] .one
(.df (.bin .gtr 101) [(.q 8),(.k (.int .u64 1073741824))] .one
(.br 9 []
(.ret (.t [(.a [(.i 0),(.i 0)]),(.i 2)]) [] [])
(.df (.conv .i64) [(.q 6)] .one
(.df (.conv .i64) [(.q 7)] .one
(.df (.bin .lss 3) [(.q 0),(.i 0)] .one
(.df (.bin .lss 3) [(.q 1),(.i 0)] .one
(.df (.binb .neq) [(.q 12),(.q 13)] .one
(.br 14 []
(.df .neg [(.q 10)] .one
(.ret (.t [(.a [(.q 15),(.q 11)]),(.i 0)]) [] []))
(.ret (.t [(.a [(.q 10),(.q 11)]),(.i 0)]) [] [])))))))))))))))))
def args_make:List SX.V:=[.x 0 [],.x 1 []]
set_option maxRecDepth 100000 in
theorem run_make(K A:Value→Nat→List Value→Prop):(SX.run (cxE0 K A) ⟨fun f=>f≠97,[],0,100⟩ 100000 0 (SX.door 97 Try.f97 args_make (List.replicate 2 .one)) [.code (Try.f97.body.getD .skip),.top Try.f97]).strip=tree_make:=by kernel_rfl
set_option maxRecDepth 100000 in
set_option maxHeartbeats 4000000 in
theorem make_any(n d:Int)(w:World)(h1 : -4611686018427387904≤n)(h2:n≤4611686018427387904)(h3 : -4611686018427387904≤d)(h4:d≤4611686018427387904):Calls Try.prog 97 #[.int .i64 n,.int .i64 d] w fun e w'=>e=.returned (.tuple #[.agg #[.int .i64 (makeS n d).1,.int .i64 (makeS n d).2.1],.int .i64 (makeS n d).2.2])∧Below w.heap.size w w':=by
 refine SX.calls_of_run (C:=cxE0 (fun _ _ _=>False) (fun _ _ _=>False)) (G:=⟨fun f=>f≠97,[],0,100⟩) (args:=args_make) (sh:=(List.replicate 2 .one)) (ρ:=[.int .i64 n,.int .i64 d]) 100000 tree_make (okE0 _ _) Try.func97 rfl (run_make _ _) (by kernel_rfl) (by kernel_rfl) (by kernel_rfl) ?_ ?_
 ·exact fun W _=>SX.Kf_none (fun _ _ _ h=>h) W
 unfold tree_make
 refine SX.D (.bool ((d:Int) == 0)) ?_
 refine SX.B ((d:Int) == 0) (fun h2=>?_) (fun h2=>?_)
 ·try simp only [NRM]at h2
  exact SX.F (.tuple #[.agg #[.int .i64 0,.int .i64 0],.int .i64 120]) (by unfold makeS;first|(rw [if_pos (by omega)];done)|(rw [hX,hY,if_neg (by omega),if_pos (by omega)];done)|(rw [hX,hY,if_neg (by omega),if_neg (by omega)];by_cases q1:n<0<;>by_cases q2:d<0<;>simp [q1,q2]at h14 ⊢;done))
 try simp only [NRM]at h2
 refine SX.E (.int .u64 ((n.natAbs:Int))) (fun α=>⟨[⟨.int .i64 n,0,[]⟩],⟨by kernel_rfl,by kernel_rfl,trivial⟩,.inl ⟨rfl,n,rfl,by omega,by omega,rfl⟩,SX.noAli rfl⟩) ?_
 refine SX.E (.int .u64 ((d.natAbs:Int))) (fun α=>⟨[⟨.int .i64 d,0,[]⟩],⟨by kernel_rfl,by kernel_rfl,trivial⟩,.inl ⟨rfl,d,rfl,by omega,by omega,rfl⟩,SX.noAli rfl⟩) ?_
 refine SX.E (.int .u64 (((Nat.gcd n.natAbs d.natAbs:Nat):Int))) (fun α=>⟨[⟨.int .u64 n.natAbs,0,[]⟩,⟨.int .u64 d.natAbs,0,[]⟩],⟨by kernel_rfl,by kernel_rfl,by kernel_rfl,by kernel_rfl,trivial⟩,.inr (⟨rfl,n.natAbs,d.natAbs,rfl,by omega,by omega,rfl⟩),SX.noAli rfl⟩) ?_
 have hg0:0<Nat.gcd n.natAbs d.natAbs:=Nat.gcd_pos_of_pos_right _ (by omega)
 have hx1:n.natAbs / Nat.gcd n.natAbs d.natAbs≤n.natAbs:=Nat.div_le_self _ _
 have hx2:d.natAbs / Nat.gcd n.natAbs d.natAbs≤d.natAbs:=Nat.div_le_self _ _
 obtain⟨X,hX⟩:∃ X,n.natAbs / Nat.gcd n.natAbs d.natAbs=X:=⟨_,rfl⟩
 obtain⟨Y,hY⟩:∃ Y,d.natAbs / Nat.gcd n.natAbs d.natAbs=Y:=⟨_,rfl⟩
 rw [hX]at hx1
 rw [hY]at hx2
 refine SX.E (.int .u64 ((X:Int))) (fun α=>Eq.trans (b:=SX.binV .quo (.int .u64 (n.natAbs:Nat)) (.int .u64 ((Nat.gcd n.natAbs d.natAbs:Nat):Int))) (by kernel_rfl) (by rw [← hX];exact quo_nat hg0 (by omega))) ?_
 refine SX.E (.int .u64 ((Y:Int))) (fun α=>Eq.trans (b:=SX.binV .quo (.int .u64 (d.natAbs:Nat)) (.int .u64 ((Nat.gcd n.natAbs d.natAbs:Nat):Int))) (by kernel_rfl) (by rw [← hY];exact quo_nat hg0 (by omega))) ?_
 refine SX.E (.int .u64 (((max X Y:Nat):Int))) (fun α=>Eq.trans (b:=SX.maxV (.int .u64 (X:Int)) (.int .u64 (Y:Int))) (by kernel_rfl) (max_nat _ _)) ?_
 refine SX.D (.bool (decide (((max X Y:Nat):Int)>1073741824))) ?_
 refine SX.B (decide (((max X Y:Nat):Int)>1073741824)) (fun h9=>?_) (fun h9=>?_)
 ·try simp only [NRM]at h9
  exact SX.F (.tuple #[.agg #[.int .i64 0,.int .i64 0],.int .i64 2]) (by unfold makeS;first|(rw [if_pos (by omega)];done)|(rw [hX,hY,if_neg (by omega),if_pos (by omega)];done)|(rw [hX,hY,if_neg (by omega),if_neg (by omega)];by_cases q1:n<0<;>by_cases q2:d<0<;>simp [q1,q2]at h14 ⊢;done))
 try simp only [NRM]at h9
 refine SX.E (.int .i64 ((X:Int))) (fun α=>SX.W ((X:Int))) ?_
 refine SX.E (.int .i64 ((Y:Int))) (fun α=>SX.W ((Y:Int))) ?_
 refine SX.D (.bool (decide (n<0))) ?_
 refine SX.D (.bool (decide (d<0))) ?_
 refine SX.D (.bool (!(decide (n<0) == decide (d<0)))) ?_
 refine SX.B (!(decide (n<0) == decide (d<0))) (fun h14=>?_) (fun h14=>?_)
 ·try simp only [NRM]at h14
  refine SX.E (.int .i64 (-((X:Int)))) (fun α=>SX.W (-((X:Int)))) ?_
  exact SX.F (.tuple #[.agg #[.int .i64 (-((X:Int))),.int .i64 ((Y:Int))],.int .i64 0]) (by unfold makeS;first|(rw [if_pos (by omega)];done)|(rw [hX,hY,if_neg (by omega),if_pos (by omega)];done)|(rw [hX,hY,if_neg (by omega),if_neg (by omega)];by_cases q1:n<0<;>by_cases q2:d<0<;>simp [q1,q2]at h14 ⊢;done))
 try simp only [NRM]at h14
 exact SX.F (.tuple #[.agg #[.int .i64 ((X:Int)),.int .i64 ((Y:Int))],.int .i64 0]) (by unfold makeS;first|(rw [if_pos (by omega)];done)|(rw [hX,hY,if_neg (by omega),if_pos (by omega)];done)|(rw [hX,hY,if_neg (by omega),if_neg (by omega)];by_cases q1:n<0<;>by_cases q2:d<0<;>simp [q1,q2]at h14 ⊢;done))
def RE1(f:FuncId)(xs:List SX.Arg)(v:Value):Prop :=
 (f=79∧∃ n d:Int,xs=[⟨.agg #[.int .i64 n,.int .i64 d],0,[]⟩]∧v=.int .i64 (if okR n d then 0 else 120)) ∨
 (f=97∧∃ n d:Int,xs=[⟨.int .i64 n,0,[]⟩,⟨.int .i64 d,0,[]⟩]∧-4611686018427387904≤n∧n≤4611686018427387904∧-4611686018427387904≤d∧d≤4611686018427387904∧v=.tuple #[.agg #[.int .i64 (makeS n d).1,.int .i64 (makeS n d).2.1],.int .i64 (makeS n d).2.2])
def shpE1:FuncId→Option SX.Sh:=fun f=>if f=79 then some .one else if f=97 then some (.tp [.ag 2,.one])else none
noncomputable def cxE1(K A:Value→Nat→List Value→Prop):SX.Cx:={ P:=Try.prog,R:=fun _=>RE1,shp:=shpE1,K:=K,A:=A }
theorem okE1(K A:Value→Nat→List Value→Prop):(cxE1 K A).Ok:=by
 refine SX.Cx.ok_of (fun _=>rfl) ?_
 intro K f xs v W hR hrd hKf
 rcases hR with ⟨rfl,n,d,rfl,rfl⟩|⟨rfl,n,d,rfl,h1,h2,h3,h4,rfl⟩
 ·exact(rcheck_any n d W).mono fun e w' h=>SX.plainOk rfl h
 exact(make_any n d W h1 h2 h3 h4).mono fun e w' h=>SX.plainOk rfl h
def tree_mul:SX.Tree :=
(.df (.call 79 [.no]) [(.a [(.q 0),(.q 1)])] .one
(.df (.bin .neq 31) [(.q 4),(.i 0)] .one
(.br 5 []
(.ret (.t [(.a [(.i 0),(.i 0)]),(.i 120)]) [] [])
(.df (.call 79 [.no]) [(.a [(.q 2),(.q 3)])] .one
(.df (.bin .neq 31) [(.q 6),(.i 0)] .one
(.br 7 []
(.ret (.t [(.a [(.i 0),(.i 0)]),(.i 120)]) [] [])
(.df (.bin .mul 3) [(.q 0),(.q 2)] .one
(.df (.bin .mul 3) [(.q 1),(.q 3)] .one
(.df (.call 97 [.no,.no]) [(.q 8),(.q 9)] (.tp [(.ag 2),.one])
(.ret (.t [(.a [(.x 10 [0,0]),(.x 10 [0,1])]),(.x 10 [1])]) [] []))))))))))
def args_mul:List SX.V:=[.a [.x 0 [],.x 1 []],.a [.x 2 [],.x 3 []]]
set_option maxRecDepth 100000 in
theorem run_mul(K A:Value→Nat→List Value→Prop):(SX.run (cxE1 K A) ⟨fun _=>true,[],0,100⟩ 100000 0 (SX.door 23 Try.f23 args_mul (List.replicate 4 .one)) [.code (Try.f23.body.getD .skip),.top Try.f23]).strip=tree_mul:=by kernel_rfl
set_option maxRecDepth 100000 in
set_option maxHeartbeats 4000000 in
theorem mul_any(an ad bn bd:Int)(w:World)  : Calls Try.prog 23 #[.agg #[.int .i64 an,.int .i64 ad],.agg #[.int .i64 bn,.int .i64 bd]] w fun e w'=>e=.returned (.tuple #[.agg #[.int .i64 (mulS an ad bn bd).1,.int .i64 (mulS an ad bn bd).2.1],.int .i64 (mulS an ad bn bd).2.2])∧Below w.heap.size w w':=by
 refine SX.calls_of_run (C:=cxE1 (fun _ _ _=>False) (fun _ _ _=>False)) (G:=⟨fun _=>true,[],0,100⟩) (args:=args_mul) (sh:=(List.replicate 4 .one)) (ρ:=[.int .i64 an,.int .i64 ad,.int .i64 bn,.int .i64 bd]) 100000 tree_mul (okE1 _ _) Try.func23 rfl (run_mul _ _) (by kernel_rfl) (by kernel_rfl) (by kernel_rfl) ?_ ?_
 ·exact fun W _=>SX.Kf_none (fun _ _ _ h=>h) W
 unfold tree_mul
 refine SX.E (.int .i64 ((if okR an ad then 0 else 120))) (fun α=>⟨[⟨.agg #[.int .i64 an,.int .i64 ad],0,[]⟩],⟨by kernel_rfl,by kernel_rfl,trivial⟩,.inl ⟨rfl,_,_,rfl,rfl⟩,SX.noAli rfl⟩) ?_
 refine SX.D (.bool (((if okR an ad then 0 else 120):Int) != 0)) ?_
 refine SX.B (((if okR an ad then 0 else 120):Int) != 0) (fun h5=>?_) (fun h5=>?_)
 ·try simp only [NRM]at h5
  exact SX.F (.tuple #[.agg #[.int .i64 0,.int .i64 0],.int .i64 120]) (by unfold mulS;first|(rw [if_pos ⟨ha,hb⟩];done)|(rw [if_neg (by rintro⟨ha,hb⟩;first|(rw [if_pos ha]at h5;omega)|(rw [if_pos hb]at h7;omega))]))
 try simp only [NRM]at h5
 refine SX.E (.int .i64 ((if okR bn bd then 0 else 120))) (fun α=>⟨[⟨.agg #[.int .i64 bn,.int .i64 bd],0,[]⟩],⟨by kernel_rfl,by kernel_rfl,trivial⟩,.inl ⟨rfl,_,_,rfl,rfl⟩,SX.noAli rfl⟩) ?_
 refine SX.D (.bool (((if okR bn bd then 0 else 120):Int) != 0)) ?_
 refine SX.B (((if okR bn bd then 0 else 120):Int) != 0) (fun h7=>?_) (fun h7=>?_)
 ·try simp only [NRM]at h7
  exact SX.F (.tuple #[.agg #[.int .i64 0,.int .i64 0],.int .i64 120]) (by unfold mulS;first|(rw [if_pos ⟨ha,hb⟩];done)|(rw [if_neg (by rintro⟨ha,hb⟩;first|(rw [if_pos ha]at h5;omega)|(rw [if_pos hb]at h7;omega))]))
 try simp only [NRM]at h7
 have ha:okR an ad:=by by_cases h:okR an ad;exact h;rw [if_neg h]at h5;omega
 have hb:okR bn bd:=by by_cases h:okR bn bd;exact h;rw [if_neg h]at h7;omega
 have m1:=mul_small (a:=an) (b:=bn) ha.2.2.1 ha.2.2.2.1 hb.2.2.1 hb.2.2.2.1
 have m2:=mul_small (a:=ad) (b:=bd) (by have:=ha.1;omega) ha.2.1 (by have:=hb.1;omega) hb.2.1
 refine SX.E (.int .i64 (an*bn)) (fun α=>SX.W (an*bn)) ?_
 refine SX.E (.int .i64 (ad*bd)) (fun α=>SX.W (ad*bd)) ?_
 refine SX.E (.tuple #[.agg #[.int .i64 ((makeS (an*bn) (ad*bd)).1),.int .i64 ((makeS (an*bn) (ad*bd)).2.1)],.int .i64 ((makeS (an*bn) (ad*bd)).2.2)]) (fun α=>⟨[⟨.int .i64 (an*bn),0,[]⟩,⟨.int .i64 (ad*bd),0,[]⟩],⟨by kernel_rfl,by kernel_rfl,by kernel_rfl,by kernel_rfl,trivial⟩,.inr (⟨rfl,_,_,rfl,by omega,by omega,by omega,by omega,rfl⟩),SX.noAli rfl⟩) ?_
 exact SX.F (.tuple #[.agg #[.int .i64 ((makeS (an*bn) (ad*bd)).1),.int .i64 ((makeS (an*bn) (ad*bd)).2.1)],.int .i64 ((makeS (an*bn) (ad*bd)).2.2)]) (by unfold mulS;first|(rw [if_pos ⟨ha,hb⟩];done)|(rw [if_neg (by rintro⟨ha,hb⟩;first|(rw [if_pos ha]at h5;omega)|(rw [if_pos hb]at h7;omega))]))
namespace SX
def subS(A:Option Addr)(sz l h m:Nat):Value:=.slice (if m=l then A else A.map (·.add (l*sz))) (h-l) (m-l)
def SubK(A:Option Addr)(n c sz:Nat)(cells:List Value)(s:Value)(z:Nat)(xs:List Value):Prop:=z=sz∧∃ l h m,l≤h∧h≤n∧h≤m∧m≤c∧s=subS A sz l h m∧xs=(cells.drop (l*sz)).take ((h-l)*sz)
theorem SubK.part{β:Type}{f:β→List Value}{sz:Nat}(hf:∀ a,(f a).length=sz){A:Option Addr}{n c:Nat}{L:List β}{l h m:Nat}(h1:l≤h)(h2:h≤n)(h3:h≤m)(h4:m≤c):SubK A n c sz (L.flatMap f) (subS A sz l h m) sz (((L.drop l).take (h-l)).flatMap f) :=
 ⟨rfl,l,h,m,h1,h2,h3,h4,rfl,by rw [flat_drop hf,flat_take hf]⟩
theorem SubK.rd{W:World}{A:Option Addr}{n c sz z:Nat}{cells xs:List Value}{s:Value}(hr:Rd W sz A n cells)(h:SubK A n c sz cells s z xs):Arg.rd W ⟨s,z,xs⟩:=by
 obtain⟨rfl,l,h,m,h1,h2,h3,h4,rfl,rfl⟩:=h
 have:=(hr.take h2).cut (k:=l) (cap:=m) h1 (by omega)
 refine⟨?_,by omega⟩
 show Rd W z _ _ _
 rw [List.drop_take,← Nat.sub_mul]at this
 exact this
section
variable {C:Cx}{ρ:List Value}{α:Nat→AV}{s i i' x y:V}{A:Option Addr}{n c k sz:Nat}
def srcRel(C:Cx)(ρ:List Value)(α:Nat→AV)(sz:Nat)(src:Rw)(y:V)(xs:List Value):Prop:=∃ x,argsOk C ρ α [src] [y] [x]∧x.sz=sz∧x.cells=xs
theorem src_ext{xs:List Value}(hK:C.K (y.den ρ α) sz xs):srcRel C ρ α sz (.ext sz) y xs:=⟨⟨y.den ρ α,sz,xs⟩,⟨rfl,rfl,hK,trivial⟩,rfl,rfl⟩
theorem src_own{xs:List Value}{cs:List V}(h:denL ρ α cs=xs):srcRel C ρ α sz (.own sz cs) y xs:=⟨⟨y.den ρ α,sz,xs⟩,⟨by rw [← h],trivial⟩,rfl,rfl⟩
theorem app_rel{β:Type}{f:β→List Value}(hf:∀ a,(f a).length=sz)(h1:∀ a,∀ u∈f a,u.oneCell'=true)(h0:0<sz){l1 l2:List β}{cc:V}{by':Nat}{src:Rw}(hc:cellsV (cc.den ρ α)=l1.flatMap f)(hs:srcRel C ρ α sz src y (l2.flatMap f))(hb:(l1.length+l2.length)*by'≤140737488355328)(hl:l1.length+l2.length≤140737488355328):Opq.rel C ρ α (.app sz by' src) [cc,y] (.agg (l2.flatMap f).toArray):=by
 obtain⟨x,ha,hz,hx⟩:=hs
 have e:((cellsV (cc.den ρ α)).length+x.cells.length) / sz=l1.length+l2.length:=by
  rw [hx,hc,flat_len hf,flat_len hf,← Nat.add_mul,Nat.mul_div_cancel _ h0]
 refine⟨x,ha,hz,fun u hu=>?_,by rw [e];exact hb,by rw [e];exact hl,by rw [hx]⟩
 rw [hx]at hu
 obtain⟨a,_,h⟩:=List.mem_flatMap.1 hu
 exact h1 a u h
theorem row_bnd{β:Type}{f:β→List Value}(hf:∀ a,(f a).length=sz)(h0:0<sz){l:List β}{cc:V}(hc:cellsV (cc.den ρ α)=l.flatMap f)(hi:i.den ρ α=.int .i64 (k:Int))(hk:k<l.length):Opq.rel C ρ α (.rbnd sz) [cc,i] (.bool true):=by
 refine⟨?_,rfl⟩
 rw [hi,hc,flat_len hf]
 show 0≤(k:Int)∧(k:Int)<((l.length*sz / sz:Nat):Int)
 rw [Nat.mul_div_cancel _ h0]
 omega
theorem row_elems{β:Type}{f:β→List Value}(hf:∀ a,(f a).length=sz)(h0:0<sz){l:List β}{cc:V}{z:β}(hc:cellsV (cc.den ρ α)=l.flatMap f)(hi:i.den ρ α=.int .i64 (k:Int))(hz:l[k]?=some z):Opq.rel C ρ α (.relems sz 0 sz) [cc,i] (.agg (f z).toArray):=by
 have hk:=(List.getElem?_eq_some_iff.1 hz).1
 refine⟨(row_bnd (C:=C) hf h0 hc hi hk).1,?_,?_⟩
 ·rw [hc,hi,flat_len hf]
  have h1:(k+1)*sz≤l.length*sz:=Nat.mul_le_mul_right _ hk
  rw [Nat.add_mul]at h1
  show(k:Int).toNat*sz+0+sz≤_
  rw [Int.toNat_natCast];omega
 rw [hc,hi]
 show _=Value.agg (((l.flatMap f).drop ((k:Int).toNat*sz+0)).take sz).toArray
 rw [Int.toNat_natCast,Nat.add_zero,flat_elem hf hz,List.take_left' (hf z)]
theorem cat1{j:Nat}{l:List Value}(h:ρ.getD j undef=.agg l.toArray):cellsV ((V.cat [.x j []]).den ρ α)=l:=by
 simp only [V.den,denL,List.foldl_nil,h,List.flatMap_cons,List.flatMap_nil,cellsV,List.append_nil]
end
def SlRet(w w':World)(roots:List Arg)(hdr:Value)(sz:Nat)(cells:List Value):Prop :=
 (∃ A len cap,hdr=.slice A len cap∧len≤cap)∧Arg.rd w' ⟨hdr,sz,cells⟩ ∧
 (FrsB w.heap.size hdr∨∃ x∈roots,(∀ W2,x.rd W2→Arg.rd W2 ⟨hdr,sz,cells⟩)∧∀ B,FrsB B x.v→FrsB B hdr)
section
variable {w W:World}{rt:World→Prop}{rf:Nat→Prop}{hp:List (Option Blk)}{ps:List (World→Prop)}{ρ:List Value}{α:Nat→AV}{sz:Nat}{roots:List Arg}
theorem SlRet.nil{c:Nat}:SlRet w W roots (.slice none 0 c) sz []:=⟨⟨_,_,_,rfl,Nat.zero_le _⟩,rd_empty,.inl fun ad n c e _=>by cases e⟩
theorem SlRet.ok{C:Cx}{f:FuncId}{x:Arg}{as':List Arg}{W':World}{e:Ending}{k:Int}{cells:List Value}(hs:C.sh f=.tp [.sl sz,.one])(ha:C.ali f=[0])(h:Below W.heap.size W W'∧∃ hdr,e=.returned (.tuple #[hdr,.int .i64 k])∧SlRet W W' [x] hdr sz cells) :
 Below W.heap.size W W'∧∃ hdr,e=.returned ((C.sh f).fill hdr (.tuple #[.agg cells.toArray,.int .i64 k]))∧∀ p z,(p,z)∈(C.sh f).sls []→HdrOk C f (x::as') W W' hdr z (cellsV (p.foldl comp (.tuple #[.agg cells.toArray,.int .i64 k]))):=by
 obtain⟨hb,hdr,he,h1,h2,h3⟩:=h
 refine⟨hb,hdr,by rw [hs,he];rfl,fun p z hp=>?_⟩
 rw [hs]at hp
 obtain⟨rfl,rfl⟩:p=[0]∧z=sz:=by simpa [Sh.sls,Sh.slsL]using hp
 refine⟨h1,h2,h3.imp id fun⟨y,hy,h4,h5⟩=>⟨0,by rw [ha];simp,x,rfl,?_,?_⟩⟩
 ·obtain rfl:y=x:=by simpa using hy
  exact h4
 obtain rfl:y=x:=by simpa using hy
 exact h5
theorem SlRet.row(hS:St ⟨w,[],rt,rf⟩ (chs ρ α 0 hp) [] ps W){n:Nat}{b:Blk}(hb:hp[n]?=some (some b))(hk:b.k=.row sz)(hr:b.rowOk ρ α n){cells:List Value}(hc:b.xs ρ α=cells):SlRet w W roots ((α n).h) sz cells:=by
 subst hc
 unfold Blk.rowOk at hr
 rw [hk]at hr
 obtain⟨h0,⟨h1,h2⟩|⟨len,cap,h1,h2,h3,h4,h5⟩⟩:=hr
 ·rw [h1,h2];exact .nil
 have hm:(⟨(α n).b,(b.xs ρ α++(α n).tl).toArray,b.t⟩:Ch)∈chs ρ α 0 hp:=chs_mem (k:=0) hb (by simp only [Blk.ch,hk,Nat.zero_add,h1])
 rw [h1]
 refine⟨⟨_,_,_,rfl,h4⟩,⟨?_,h4⟩,.inl fun ad k c e _=>?_⟩
 ·refine Rd.of_blk (hS.at_ hm) h2 fun j u hu=>?_
  rw [Nat.zero_add]
  have:(b.xs ρ α++(α n).tl)[j]?=some u:=by rw [List.getElem?_append_left (List.getElem?_eq_some_iff.1 hu).1];exact hu
  simpa using this
 cases e
 exact(hS.ge_ hm).resolve_right nofun
theorem RCall.old{C:Cx}{f:FuncId}{rw':List Rw}{as':List Arg}{old old':List Value}{t:TypeId}{v:Value}(h:RCall C f rw' as' old' sz t v)(e:old=old'):RCall C f rw' as' old sz t v:=e▸h
theorem SlRet.own(hS:St ⟨w,[],rt,rf⟩ (chs ρ α 0 hp) [] ps W){n l:Nat}{b:Blk}(hb:hp[n]?=some (some b))(hk:b.k=.cells){cells:List Value}(hc:denL ρ α b.c=cells)(hl:cells.length=l*sz):SlRet w W roots (.slice (some ⟨(α n).b,0,none⟩) l l) sz cells:=by
 have hm:(⟨(α n).b,(denL ρ α b.c).toArray,b.t⟩:Ch)∈chs ρ α 0 hp:=chs_mem (k:=0) hb (by simp only [Blk.ch,hk,Nat.zero_add])
 refine⟨⟨_,_,_,rfl,Nat.le_refl _⟩,⟨Rd.of_all (hS.at_ hm) (by simp [hc]) hl,Nat.le_refl _⟩,.inl fun ad k c e _=>?_⟩
 cases e
 exact(hS.ge_ hm).resolve_right nofun
theorem SlRet.ext{C:Cx}(hS:St ⟨w,[],Af C,Bf C⟩ (chs ρ α 0 hp) [] (exs ⟨w,[],Af C,Bf C⟩ ρ α 0 hp++ps) W){n:Nat}{b:Blk}(hb:hp[n]?=some (some b))(hk:b.k=.ext sz)(hr:b.rowOk ρ α n){cells:List Value}(hc:b.xs ρ α=cells){x:Arg}(hx:x∈roots)(hA:∀ W2,x.rd W2→Af C W2)(hB:∀ B,FrsB B x.v→Bf C B):SlRet w W roots ((α n).h) sz cells:=by
 subst hc
 unfold Blk.rowOk at hr
 rw [hk]at hr
 obtain⟨h0,A,len,cap,h1,h2,h3,_⟩:=hr
 obtain⟨f1,f2⟩:=hS.fact (List.mem_append.2 (.inl (exs_mem.2 ⟨n,b,hb,by rw [Nat.zero_add];simp only [Blk.ex,hk];rfl⟩)))
 refine⟨⟨A,len,cap,h1,h3⟩,f1,f2.imp id fun⟨g1,g2⟩=>⟨x,hx,fun W2 h=>g1 W2 (hA W2 h),fun B h=>g2 B (hB B h)⟩⟩
end
end SX
def zeroSg:Sg:=⟨0,0,0,0,0,0,0,0,0,0,0,0,0,0⟩
theorem cellsSg_inj(a b:Sg)(h:cellsSg a=cellsSg b):a=b:=by
 cases a;cases b
 simpa [cellsSg]using h
theorem cellsSg_one(a:Sg):∀ u∈cellsSg a,u.oneCell'=true:=by
 intro u hu
 simp only [cellsSg,List.mem_cons,List.not_mem_nil,or_false]at hu
 rcases hu with rfl|rfl|rfl|rfl|rfl|rfl|rfl|rfl|rfl|rfl|rfl|rfl|rfl|rfl<;>rfl
theorem sgs_arg{W:World}{u:Value}{ss:List Sg}(h:SX.Arg.rd W ⟨u,14,sgsL ss⟩):∃ A n c,u=.slice A n c∧Rd W 14 A n (sgsL ss)∧n≤c∧ss.length=n:=by
 unfold SX.Arg.rd at h
 split at h
 ·rename_i A n c hu
  have hu:u=.slice A n c:=hu
  refine⟨A,n,c,hu,h.1,h.2,?_⟩
  have:=h.1.1;simp only [sgsL_len]at this;omega
 cases h
theorem chkS_ok{ss:List Sg}(h:chkS ss=0):okL ss∧ss.length≤4096:=by
 unfold chkS at h
 split at h
 ·omega
 split at h
 ·rename_i h1 h2;exact⟨h2,by omega⟩
 omega
theorem sgs_fit(l:List Sg)(k:Int):SX.Sh.fit (.tp [.sl 14,.one]) (.tuple #[.agg (sgsL l).toArray,.int .i64 k])=true:=by
 have h1:(sgsL l).length % 14=0:=by rw [sgsL_len];omega
 have h2:(sgsL l).all (·.oneCell')=true:=by
  rw [List.all_eq_true]
  intro u hu
  obtain⟨a,_,h⟩:=List.mem_flatMap.1 hu
  exact cellsSg_one a u h
 simp only [SX.Sh.fit,SX.Sh.fitL,h1,h2]
 rfl
structure Ed where
 (kind role other fr to n sn sd:Int) (sign:Sg)
 deriving DecidableEq,Inhabited
def cellsE(e:Ed):List Value:=[.int .i64 e.kind,.int .i64 e.role,.int .i64 e.other,.int .i64 e.fr,.int .i64 e.to,.int .i64 e.n,.int .i64 e.sn,.int .i64 e.sd]++cellsSg e.sign
def valE(e:Ed):Value:=.agg (cellsE e).toArray
theorem cellsE_inj(a b:Ed)(h:cellsE a=cellsE b):a=b:=by
 obtain⟨a1,a2,a3,a4,a5,a6,a7,a8,a9⟩:=a
 obtain⟨b1,b2,b3,b4,b5,b6,b7,b8,b9⟩:=b
 simp only [cellsE,List.cons_append,List.nil_append,List.cons.injEq,Value.int.injEq,true_and]at h
 obtain⟨rfl,rfl,rfl,rfl,rfl,rfl,rfl,rfl,h⟩:=h
 rw [cellsSg_inj _ _ h]
def barsE(e:Ed):Prop:=0≤e.fr∧e.fr≤e.to∧e.to≤4095
def roleE(e:Ed):Prop:=0≤e.role∧e.role≤64∧barsE e
abbrev inP (e:Ed) (k:Sg):Prop:=e.fr≤k.bar∧k.bar≤e.to∧(e.role=0∨k.role=e.role-1)
def usesE(e:Ed):Ed :=
 if e.kind=1 then⟨1,e.role,0,e.fr,e.to,0,0,0,zeroSg⟩else if e.kind=2 then⟨2,e.role,0,e.fr,e.to,e.n,0,0,zeroSg⟩else
 if e.kind=3 then⟨3,0,0,e.fr,e.to,0,0,0,zeroSg⟩else if e.kind=4 then⟨4,0,0,e.fr,0,e.n,0,0,zeroSg⟩else
 if e.kind=5 then⟨5,0,0,0,0,0,0,0,e.sign⟩else if e.kind=6 then⟨6,e.role,e.other,e.fr,e.to,0,0,0,zeroSg⟩else
 ⟨e.kind,e.role,0,e.fr,e.to,0,e.sn,e.sd,zeroSg⟩
def rightE(e:Ed):Prop :=
 if e.kind=1 then roleE e else if e.kind=2 then roleE e∧1≤e.n∧e.n≤7 else if e.kind=3 then barsE e else
 if e.kind=4 then 0≤e.fr∧e.fr≤4095∧1≤e.n∧e.n≤4095 else if e.kind=5 then e.sign.ok else
 if e.kind=6 then roleE e∧1≤e.role∧1≤e.other∧e.other≤64∧e.role≠e.other else
 roleE e∧okR e.sn e.sd∧0<e.sn∧e.sn≤e.sd
def okE(e:Ed):Prop:=1≤e.kind∧e.kind≤7∧usesE e=e∧rightE e
def swapN(n a b:Int):Int:=if n=a then b else if n=b then a else n
def mirrorS(k:Sg):Sg:={ k with side:=swapN k.side 1 2,dir:=if 1<k.dir then 10-k.dir else k.dir,size:=if k.kind=6∧1≤k.size∧k.size≤7 then 8-k.size else k.size }
def workE(e:Ed)(k:Sg):Option (List Sg) :=
 if e.kind=1 then(if inP e k then some [mirrorS k]else some [k])
 else if e.kind=2 then(if inP e k∧0<k.dir then some [{ k with dir:=(k.dir-1+e.n) % 8+1 }]else some [k])
 else if e.kind=3 then(if e.fr≤k.bar∧k.bar≤e.to then some []else if e.to<k.bar then some [{ k with bar:=k.bar-(e.to-e.fr+1) }]else some [k])
 else if e.kind=4 then(if e.fr≤k.bar then some [{ k with bar:=k.bar+e.n }]else some [k])
 else if e.kind=6 then(if e.fr≤k.bar∧k.bar≤e.to then some [{ k with role:=swapN k.role (e.role-1) (e.other-1),with_:=swapN k.with_ e.role e.other }]else some [k])
 else if e.kind=7 then(if inP e k then(if(mulS k.fn k.fd e.sn e.sd).2.2=0∧(mulS k.tn k.td e.sn e.sd).2.2=0 then some [{ k with fn:=(mulS k.fn k.fd e.sn e.sd).1,fd:=(mulS k.fn k.fd e.sn e.sd).2.1,tn:=(mulS k.tn k.td e.sn e.sd).1,td:=(mulS k.tn k.td e.sn e.sd).2.1 }]else none)else some [k])
 else none
def accE(e:Ed)(l:List Sg):Option (List Sg):=l.foldl (fun acc k=>acc.bind fun y=>(workE e k).map (y++·)) (some [])
noncomputable def applyE(e:Ed)(ss:List Sg):List Sg×Int:=open Classical in
 if chkS ss≠0 then([],chkS ss)else if ¬ okE e then([],360)else match accE e ss with
 | none=>([],360)
 | some y=>if chkS y=0 then(y,0)else([],chkS y)
theorem fold_none(e:Ed):∀ l:List Sg,l.foldl (fun acc k=>acc.bind fun y=>(workE e k).map (y++·)) none=none
 | []=>rfl
 | _::l=>fold_none e l
theorem acc_take{e:Ed}{ss:List Sg}{i:Nat}{z:Sg}(hz:ss[i]?=some z):accE e (ss.take (i+1))=(accE e (ss.take i)).bind fun y=>(workE e z).map (y++·):=by
 unfold accE
 rw [List.take_add_one,hz,Option.toList_some,List.foldl_append]
 rfl
theorem acc_step{e:Ed}{ss:List Sg}{i:Nat}{z:Sg}{y m:List Sg}(hz:ss[i]?=some z)(h:accE e (ss.take i)=some y)(hw:workE e z=some m):accE e (ss.take (i+1))=some (y++m):=by
 rw [acc_take hz,h,Option.bind_some,hw];rfl
theorem acc_fail{e:Ed}{ss:List Sg}{i:Nat}{z:Sg}{y:List Sg}(hz:ss[i]?=some z)(h:accE e (ss.take i)=some y)(hw:workE e z=none):accE e ss=none:=by
 have h1:=acc_take (e:=e) hz
 rw [h,Option.bind_some,hw]at h1
 have h2:ss=ss.take (i+1)++ss.drop (i+1):=(List.take_append_drop _ _).symm
 rw [h2]
 unfold accE at h1 ⊢
 rw [List.foldl_append,h1]
 exact fold_none e _
theorem work_len{e:Ed}{k:Sg}{m:List Sg}(h:workE e k=some m):m.length≤1:=by
 unfold workE at h
 (repeat' split at h)<;>first|(cases h;done)|(cases h;simp)
theorem acc_len{e:Ed}{ss:List Sg}:∀ {i:Nat}{y:List Sg},accE e (ss.take i)=some y→y.length≤i
 | 0,y,h=>by
  simp only [List.take_zero,accE,List.foldl_nil,Option.some.injEq]at h
  rw [← h];simp
 | i+1,y,h=>by
  cases hz:ss[i]? with
  | none =>
   have:ss.take (i+1)=ss.take i:=by rw [List.take_add_one,hz];simp
   rw [this]at h
   have:=acc_len h
   omega
  | some z =>
   rw [acc_take hz]at h
   obtain⟨y',h1,h2⟩:=Option.bind_eq_some_iff.1 h
   obtain⟨m,h3,rfl⟩:=Option.map_eq_some_iff.1 h2
   have:=acc_len h1
   have:=work_len h3
   simp only [List.length_append]
   omega
theorem applyE_chk{e:Ed}{ss:List Sg}(h:¬ chkS ss=0):applyE e ss=([],chkS ss):=by unfold applyE;rw [if_pos h]
theorem applyE_no{e:Ed}{ss:List Sg}(h:chkS ss=0)(h2:¬ okE e):applyE e ss=([],360):=by unfold applyE;rw [if_neg (by simpa using h),if_pos h2]
theorem applyE_fail{e:Ed}{ss:List Sg}(h:chkS ss=0)(h2:okE e)(h3:accE e ss=none):applyE e ss=([],360):=by unfold applyE;rw [if_neg (by simpa using h),if_neg (by simpa using h2),h3]
theorem applyE_out{e:Ed}{ss y:List Sg}(h:chkS ss=0)(h2:okE e)(h3:accE e ss=some y)(h4:¬ chkS y=0):applyE e ss=([],chkS y):=by unfold applyE;rw [if_neg (by simpa using h),if_neg (by simpa using h2),h3];simp only;rw [if_neg h4]
theorem applyE_ok{e:Ed}{ss y:List Sg}(h:chkS ss=0)(h2:okE e)(h3:accE e ss=some y)(h4:chkS y=0):applyE e ss=(y,0):=by unfold applyE;rw [if_neg (by simpa using h),if_neg (by simpa using h2),h3];simp only;rw [if_pos h4]
theorem rem8{x:Int}(h:0≤x)(h2:x≤1000):SX.binV .rem (.int .i64 x) (.int .i64 8)=some (.int .i64 (x % 8)):=by
 simp only [SX.binV,if_true]
 rw [if_neg (by decide),Int.tmod_eq_emod_of_nonneg h]
theorem okR_iff2{n d:Int}:((if okR n d then 0 else 120:Int)=0)↔okR n d:=by
 split<;>simp_all
def RE2(f:FuncId)(xs:List SX.Arg)(v:Value):Prop :=
 (f=14∧∃ (u:Value) (ss:List Sg),xs=[⟨u,14,sgsL ss⟩]∧ss.length≤9223372036854775807∧v=.int .i64 (chkS ss)) ∨
 (f=79∧∃ n d:Int,xs=[⟨.agg #[.int .i64 n,.int .i64 d],0,[]⟩]∧v=.int .i64 (if okR n d then 0 else 120)) ∨
 (f=23∧∃ an ad bn bd:Int,xs=[⟨.agg #[.int .i64 an,.int .i64 ad],0,[]⟩,⟨.agg #[.int .i64 bn,.int .i64 bd],0,[]⟩]∧v=.tuple #[.agg #[.int .i64 (mulS an ad bn bd).1,.int .i64 (mulS an ad bn bd).2.1],.int .i64 (mulS an ad bn bd).2.2])
def shpE2:FuncId→Option SX.Sh:=fun f=>if f=14 then some .one else if f=79 then some .one else if f=23 then some (.tp [.ag 2,.one])else none
noncomputable def cxE2(K A:Value→Nat→List Value→Prop):SX.Cx:={ P:=Try.prog,R:=fun _=>RE2,shp:=shpE2,K:=K,A:=A }
theorem okE2(K A:Value→Nat→List Value→Prop):(cxE2 K A).Ok:=by
 refine SX.Cx.ok_of (fun _=>rfl) ?_
 intro K f xs v W hR hrd hKf
 rcases hR with ⟨rfl,u,ss,rfl,hl,rfl⟩|⟨rfl,n,d,rfl,rfl⟩|⟨rfl,an,ad,bn,bd,rfl,rfl⟩
 ·obtain⟨A,n,c,rfl,h2,h3,h4⟩:=sgs_arg (hrd ⟨u,14,sgsL ss⟩ (by simp))
  exact(echeck_any ss A n c W h2 (by omega) h3).mono fun e w' h=>SX.plainOk rfl h
 ·exact(rcheck_any n d W).mono fun e w' h=>SX.plainOk rfl h
 exact(mul_any an ad bn bd W).mono fun e w' h=>SX.plainOk rfl h
def tree_e3:SX.Tree :=
(.df (.call 14 [(.ext 14)]) [(.q 0)] .one
(.df (.bin .neq 31) [(.q 23),(.i 0)] .one
(.br 24 []
(.ret (.t [(.k (.slice none 0 0)),(.q 23)]) [none] [])
(.df (.eqr true 22 [(.i .i64),(.i .i64),(.i .i64),(.i .i64),(.i .i64),(.i .i64),(.i .i64),(.i .i64),(.i .i64),(.i .i64),(.i .i64),(.i .i64),(.i .i64),(.i .i64),(.i .i64),(.i .i64),(.i .i64),(.i .i64),(.i .i64),(.i .i64),(.i .i64),(.i .i64)]) ([(.i 3),(.i 0),(.i 0),(.q 4),(.q 5),(.i 0),(.i 0),(.i 0),(.i 0),(.i 0),(.i 0),(.i 0),(.i 0),(.i 0),(.i 0),(.i 0),(.i 0),(.i 0),(.i 0),(.i 0),(.i 0),(.i 0),(.i 3)]++SX.Z 2 21) .one
(.br 25 []
(.ret (.t [(.k (.slice none 0 0)),(.i 360)]) (List.replicate 10 none) [])
(.df (.bin .geq 3) [(.q 4),(.i 0)] .one
(.br 26 []
(.df (.bin .leq 3) [(.q 4),(.q 5)] .one
(.br 27 []
(.df (.bin .leq 3) [(.q 5),(.i 4095)] .one
(.df .not [(.q 28)] .one
(.br 29 []
(.ret (.t [(.k (.slice none 0 0)),(.i 360)]) (List.replicate 11 none) [])
(.df (.len false) [(.q 0)] .one
(.loop [(.i 0),(.cat [])] [.one,.any]
(.df (.bin .lss 3) [(.q 31),(.q 30)] .one
(.br 33 []
(.df .bnd [(.q 0),(.q 31)] .one
(.df (.elems 14 0 14) [(.q 0),(.q 31)] (.ag 14)
(.df (.bin .geq 3) [(.x 35 [2]),(.q 4)] .one
(.br 36 []
(.df (.bin .leq 3) [(.x 35 [2]),(.q 5)] .one
(.br 37 []
(.df (.app 14 112 (.own 14 [])) [(.cat [(.q 32)]),(.k (.slice none 0 0))] .any
(.df (.bin .add 3) [(.q 31),(.i 1)] .one
(.again 0 [(.q 39),(.cat [(.q 32),(.q 38)])])))
(.df (.bin .gtr 3) [(.x 35 [2]),(.q 5)] .one
(.br 38 []
(.df (.bin .sub 3) [(.q 5),(.q 4)] .one
(.df (.bin .add 3) [(.q 39),(.i 1)] .one
(.df (.bin .sub 3) [(.x 35 [2]),(.q 40)] .one
(.df (.app 14 112 (.own 14 ([(.x 35 [0]),(.x 35 [1]),(.q 41)]++SX.Y 35 3 11))) [(.cat [(.q 32)]),(.sl 17 0 1 1)] .any
(.df (.bin .add 3) [(.q 31),(.i 1)] .one
(.again 0 [(.q 43),(.cat [(.q 32),(.q 42)])]))))))
(.df (.app 14 112 (.own 14 (SX.Y 35 0 14))) [(.cat [(.q 32)]),(.sl 17 0 1 1)] .any
(.df (.bin .add 3) [(.q 31),(.i 1)] .one
(.again 0 [(.q 40),(.cat [(.q 32),(.q 39)])])))))))
(.df (.bin .gtr 3) [(.x 35 [2]),(.q 5)] .one
(.br 37 []
(.df (.bin .sub 3) [(.q 5),(.q 4)] .one
(.df (.bin .add 3) [(.q 38),(.i 1)] .one
(.df (.bin .sub 3) [(.x 35 [2]),(.q 39)] .one
(.df (.app 14 112 (.own 14 ([(.x 35 [0]),(.x 35 [1]),(.q 40)]++SX.Y 35 3 11))) [(.cat [(.q 32)]),(.sl 17 0 1 1)] .any
(.df (.bin .add 3) [(.q 31),(.i 1)] .one
(.again 0 [(.q 42),(.cat [(.q 32),(.q 41)])]))))))
(.df (.app 14 112 (.own 14 (SX.Y 35 0 14))) [(.cat [(.q 32)]),(.sl 17 0 1 1)] .any
(.df (.bin .add 3) [(.q 31),(.i 1)] .one
(.again 0 [(.q 39),(.cat [(.q 32),(.q 38)])])))))))))
(.df (.call 14 [(.row 14 [(.q 32)])]) [(.row 14)] .one
(.df (.bin .neq 31) [(.q 34),(.i 0)] .one
(.br 35 []
(.ret (.t [(.k (.slice none 0 0)),(.q 34)]) (List.replicate 15 none) [])
(.ret (.t [(.row 14),(.i 0)]) (List.replicate 14 none++[(some ⟨[(.q 32)],26,(.row 14)⟩)]) [])))))))))))
(.ret (.t [(.k (.slice none 0 0)),(.i 360)]) (List.replicate 11 none) [])))
(.ret (.t [(.k (.slice none 0 0)),(.i 360)]) (List.replicate 11 none) []))))))))
def args_e3:List SX.V:=[.x 0 [],.a ([.k (.int .i64 3)]++(List.range 21).map fun j=>.x (2+j) [])]
set_option maxRecDepth 100000 in
theorem run_e3(K A:Value→Nat→List Value→Prop):(SX.run (cxE2 K A) ⟨fun _=>true,[⟨12,13,[(.s 51,.one),(.s 4,.row 14 26)]⟩],2,100⟩ 100000 0 (SX.door 12 Try.f12 args_e3 (List.replicate 23 .one)) [.code (Try.f12.body.getD .skip),.top Try.f12]).strip=tree_e3:=by kernel_rfl
set_option maxRecDepth 100000 in
set_option maxHeartbeats 4000000 in
theorem e3_any(ss:List Sg)(A:Option Addr)(n c:Nat)(role other fr to m sn sd:Int)(sg:Sg)(w:World)(hr:Rd w 14 A n (sgsL ss))(hn:n≤9223372036854775807)(hc:n≤c):Calls Try.prog 12 #[.slice A n c,valE (⟨3,role,other,fr,to,m,sn,sd,sg⟩:Ed)] w fun e w'=>Below w.heap.size w w'∧∃ hdr,e=.returned (.tuple #[hdr,.int .i64 (applyE (⟨3,role,other,fr,to,m,sn,sd,sg⟩:Ed) ss).2])∧SX.SlRet w w' [] hdr 14 (sgsL (applyE (⟨3,role,other,fr,to,m,sn,sd,sg⟩:Ed) ss).1):=by
 refine SX.calls_of_run (C:=cxE2 (fun s sz cells=>s=.slice A n c∧sz=14∧cells=sgsL ss) (fun _ _ _=>False)) (G:=⟨fun _=>true,[⟨12,13,[(.s 51,.one),(.s 4,.row 14 26)]⟩],2,100⟩) (args:=args_e3) (sh:=(List.replicate 23 .one)) (ρ:=([.slice A n c]++cellsE (⟨3,role,other,fr,to,m,sn,sd,sg⟩:Ed))) 100000 tree_e3 (okE2 _ _) Try.func12 rfl (run_e3 _ _) (by kernel_rfl) (by kernel_rfl) (by kernel_rfl) ?_ ?_
 ·rintro W hW s sz cells ⟨rfl,rfl,rfl⟩;exact⟨hr.same0 hW,hc⟩
 have hA:=SX.rd_some hr
 have hln:ss.length=n:=by have:=hr.1;rw [sgsL_len]at this;omega
 have k1:(fun s sz cells=>s=.slice A n c∧sz=14∧cells=sgsL ss) (Value.slice A n c) 14 (sgsL ss):=⟨rfl,rfl,rfl⟩
 have hu:usesE (⟨3,role,other,fr,to,m,sn,sd,sg⟩:Ed)=(⟨3,0,0,fr,to,0,0,0,zeroSg⟩:Ed):=by unfold usesE;rw [if_neg (by show ¬ ((3:Int)=1);decide),if_neg (by show ¬ ((3:Int)=2);decide),if_pos rfl]
 have hrt:rightE (⟨3,role,other,fr,to,m,sn,sd,sg⟩:Ed)↔0≤fr∧fr≤to∧to≤4095:=by unfold rightE;rw [if_neg (by show ¬ ((3:Int)=1);decide),if_neg (by show ¬ ((3:Int)=2);decide),if_pos rfl];try simp only [roleE,barsE]
 have hwk:∀ z:Sg,workE (⟨3,role,other,fr,to,m,sn,sd,sg⟩:Ed) z=(if fr≤z.bar∧z.bar≤to then some []else if to<z.bar then some [{ z with bar:=z.bar-(to-fr+1) }]else some [z]):=fun z=>by unfold workE;rw [if_neg (by show ¬ ((3:Int)=1);decide),if_neg (by show ¬ ((3:Int)=2);decide),if_pos rfl]
 unfold tree_e3
 refine SX.E (.int .i64 ((chkS ss))) (fun α=>⟨[⟨.slice A n c,14,sgsL ss⟩],⟨by kernel_rfl,rfl,cast (by kernel_rfl) k1,trivial⟩,.inl ⟨rfl,.slice A n c,ss,rfl,by omega,rfl⟩,SX.noAli rfl⟩) ?_
 refine SX.D (.bool (((chkS ss):Int) != 0)) ?_
 refine SX.B (((chkS ss):Int) != 0) (fun h24=>?_) (fun h24=>?_)
 ·try simp only [NRM]at h24
  have hfact:applyE (⟨3,role,other,fr,to,m,sn,sd,sg⟩:Ed) ss=([],chkS ss):=applyE_chk h24
  exact SX.VC_ret fun α W _ hR hS=>⟨hS.below,(.slice none 0 0),Eq.trans (b:=Ending.returned (.tuple #[(.slice none 0 0),.int .i64 ((chkS ss))])) (by kernel_rfl) (by rw [hfact]),(by rw [hfact];exact SX.SlRet.nil)⟩
 try simp only [NRM]at h24
 refine SX.E (.bool (true ^^ decide ((⟨3,0,0,fr,to,0,0,0,zeroSg⟩:Ed)=(⟨3,role,other,fr,to,m,sn,sd,sg⟩:Ed)))) (fun α=>SX.eqr_rel (f:=cellsE) cellsE_inj (y:=(⟨3,0,0,fr,to,0,0,0,zeroSg⟩:Ed)) (z:=(⟨3,role,other,fr,to,m,sn,sd,sg⟩:Ed)) (by kernel_rfl) (by kernel_rfl) (by kernel_rfl)) ?_
 refine SX.B (true ^^ decide ((⟨3,0,0,fr,to,0,0,0,zeroSg⟩:Ed)=(⟨3,role,other,fr,to,m,sn,sd,sg⟩:Ed))) (fun h25=>?_) (fun h25=>?_)
 ·try simp only [NRM]at h25
  have hfact:applyE (⟨3,role,other,fr,to,m,sn,sd,sg⟩:Ed) ss=([],360):=applyE_no h24 (fun hk=>by first|exact h25 (by rw [← hu];exact hk.2.2.1)|(have:=hrt.1 hk.2.2.2;omega)|(have:=hrt.1 hk.2.2.2;have:=okR_iff2.2 this.2.1;omega))
  exact SX.VC_ret fun α W _ hR hS=>⟨hS.below,(.slice none 0 0),Eq.trans (b:=Ending.returned (.tuple #[(.slice none 0 0),.int .i64 360])) (by kernel_rfl) (by rw [hfact]),(by rw [hfact];exact SX.SlRet.nil)⟩
 try simp only [NRM]at h25
 refine SX.D (.bool (decide (fr≥0))) ?_
 refine SX.B (decide (fr≥0)) (fun h26=>?_) (fun h26=>?_)
 ·try simp only [NRM]at h26
  refine SX.D (.bool (decide (fr≤to))) ?_
  refine SX.B (decide (fr≤to)) (fun h27=>?_) (fun h27=>?_)
  ·try simp only [NRM]at h27
   refine SX.D (.bool (decide (to≤4095))) ?_
   refine SX.D (.bool (!(decide (to≤4095)))) ?_
   refine SX.B (!(decide (to≤4095))) (fun h29=>?_) (fun h29=>?_)
   ·try simp only [NRM]at h29
    have hfact:applyE (⟨3,role,other,fr,to,m,sn,sd,sg⟩:Ed) ss=([],360):=applyE_no h24 (fun hk=>by first|exact h25 (by rw [← hu];exact hk.2.2.1)|(have:=hrt.1 hk.2.2.2;omega)|(have:=hrt.1 hk.2.2.2;have:=okR_iff2.2 this.2.1;omega))
    exact SX.VC_ret fun α W _ hR hS=>⟨hS.below,(.slice none 0 0),Eq.trans (b:=Ending.returned (.tuple #[(.slice none 0 0),.int .i64 360])) (by kernel_rfl) (by rw [hfact]),(by rw [hfact];exact SX.SlRet.nil)⟩
   try simp only [NRM]at h29
   refine SX.D (.int .i64 (((n:Nat):Int))) ?_
   have hok:okE (⟨3,role,other,fr,to,m,sn,sd,sg⟩:Ed):=⟨by show(1:Int)≤3;decide,by show(3:Int)≤7;decide,hu.trans h25,hrt.2 (by first|omega|(refine⟨by omega,?_⟩;exact⟨okR_iff2.1 (by assumption),by omega,by omega⟩))⟩
   obtain⟨hss,hs4⟩:=chkS_ok h24
   refine SX.VC_loop (fun xs=>∃ (i:Nat) (cur:List Sg),xs=[.int .i64 (i:Int),.agg (sgsL cur).toArray]∧i≤n∧accE (⟨3,role,other,fr,to,m,sn,sd,sg⟩:Ed) (ss.take i)=some cur) (fun xs=>match xs with|[.int _ i,_]=>n-i.toNat|_=>0) (fun α=>⟨0,[],by kernel_rfl,by omega,rfl⟩) ?_
   rintro xs-⟨i,cur,rfl,hin,hacc⟩
   have hcl:=acc_len hacc
   refine SX.D (.bool (decide (((i:Nat):Int)<((n:Nat):Int)))) ?_
   refine SX.B (decide (((i:Nat):Int)<((n:Nat):Int))) (fun h33=>?_) (fun h33=>?_)
   ·try simp only [NRM]at h33
    obtain⟨z,hz⟩:∃ z,ss[i]?=some z:=⟨_,List.getElem?_eq_getElem (by omega)⟩
    have zb:=hss.1 z (List.mem_of_getElem? hz)
    rw [Sg.ok_iff]at zb
    obtain⟨⟨z1,z2⟩,⟨z3,z4⟩,⟨z5,z6⟩,⟨z7,z8⟩,⟨z9,z10⟩,⟨z11,z12⟩,⟨z13,z14⟩,⟨z15,z16⟩,⟨z17,z18⟩,⟨z19,z20⟩,z21⟩:=zb
    refine SX.E (.bool true) (fun α=>SX.extBnd (A:=A) (n:=n) (c:=c) (j:=i) hA (by kernel_rfl) (by kernel_rfl) (by omega)) ?_
    refine SX.E (.agg (cellsSg z).toArray) (fun α=>SX.extElems (f:=cellsSg) (l:=ss) (A:=A) (n:=n) (c:=c) (j:=i) (z:=z) (fun _=>rfl) hA (by kernel_rfl) (by kernel_rfl) (by omega) (cast (by kernel_rfl) k1) hz) ?_
    refine SX.D (.bool (decide (z.bar≥fr))) ?_
    refine SX.B (decide (z.bar≥fr)) (fun h36=>?_) (fun h36=>?_)
    ·try simp only [NRM]at h36
     refine SX.D (.bool (decide (z.bar≤to))) ?_
     refine SX.B (decide (z.bar≤to)) (fun h37=>?_) (fun h37=>?_)
     ·try simp only [NRM]at h37
      refine SX.E (Value.agg ((([]:List Sg)).flatMap cellsSg).toArray) (fun α=>SX.app_rel (f:=cellsSg) (l1:=cur) (l2:=([]:List Sg)) (fun _=>rfl) cellsSg_one (by decide) (SX.cat1 (by kernel_rfl)) (SX.src_own (by kernel_rfl)) (by simp only [LL];omega) (by simp only [LL];omega)) ?_
      refine SX.E (.int .i64 (((i+1:Nat):Int))) (fun α=>SX.W1 i) ?_
      exact SX.VC_again fun α=>⟨⟨i+1,cur++(([]:List Sg)),Eq.trans (b:=[.int .i64 ((i+1:Nat):Int),.agg ([Value.agg (sgsL cur).toArray,Value.agg ((([]:List Sg)).flatMap cellsSg).toArray].flatMap SX.cellsV).toArray]) (by kernel_rfl) (by simp [SX.cellsV,sgsL]),by omega,acc_step hz hacc (by rw [hwk];(try simp only [mirrorS,swapN]);(repeat' split)<;>first|rfl|(exfalso;omega))⟩,cast (by kernel_rfl) (show n-((i+1:Nat):Int).toNat<n-(i:Int).toNat by omega)⟩
     try simp only [NRM]at h37
     refine SX.D (.bool (decide (z.bar>to))) ?_
     refine SX.B (decide (z.bar>to)) (fun h38=>?_) (fun h38=>?_)
     ·try simp only [NRM]at h38
      refine SX.E (.int .i64 (to-fr)) (fun α=>SX.W (to-fr)) ?_
      refine SX.E (.int .i64 ((to-fr)+1)) (fun α=>SX.W ((to-fr)+1)) ?_
      refine SX.E (.int .i64 (z.bar-((to-fr)+1))) (fun α=>SX.W (z.bar-((to-fr)+1))) ?_
      refine SX.E (Value.agg (([(⟨z.id,z.role,z.bar-((to-fr)+1),z.mark,z.kind,z.side,z.dir,z.level,z.size,z.with_,z.fn,z.fd,z.tn,z.td⟩:Sg)]).flatMap cellsSg).toArray) (fun α=>SX.app_rel (f:=cellsSg) (l1:=cur) (l2:=[(⟨z.id,z.role,z.bar-((to-fr)+1),z.mark,z.kind,z.side,z.dir,z.level,z.size,z.with_,z.fn,z.fd,z.tn,z.td⟩:Sg)]) (fun _=>rfl) cellsSg_one (by decide) (SX.cat1 (by kernel_rfl)) (SX.src_own (by kernel_rfl)) (by simp only [LL];omega) (by simp only [LL];omega)) ?_
      refine SX.E (.int .i64 (((i+1:Nat):Int))) (fun α=>SX.W1 i) ?_
      exact SX.VC_again fun α=>⟨⟨i+1,cur++[(⟨z.id,z.role,z.bar-((to-fr)+1),z.mark,z.kind,z.side,z.dir,z.level,z.size,z.with_,z.fn,z.fd,z.tn,z.td⟩:Sg)],Eq.trans (b:=[.int .i64 ((i+1:Nat):Int),.agg ([Value.agg (sgsL cur).toArray,Value.agg (([(⟨z.id,z.role,z.bar-((to-fr)+1),z.mark,z.kind,z.side,z.dir,z.level,z.size,z.with_,z.fn,z.fd,z.tn,z.td⟩:Sg)]).flatMap cellsSg).toArray].flatMap SX.cellsV).toArray]) (by kernel_rfl) (by simp [SX.cellsV,sgsL]),by omega,acc_step hz hacc (by rw [hwk];(try simp only [mirrorS,swapN]);(repeat' split)<;>first|rfl|(exfalso;omega))⟩,cast (by kernel_rfl) (show n-((i+1:Nat):Int).toNat<n-(i:Int).toNat by omega)⟩
     try simp only [NRM]at h38
     refine SX.E (Value.agg (([z]).flatMap cellsSg).toArray) (fun α=>SX.app_rel (f:=cellsSg) (l1:=cur) (l2:=[z]) (fun _=>rfl) cellsSg_one (by decide) (SX.cat1 (by kernel_rfl)) (SX.src_own (by kernel_rfl)) (by simp only [LL];omega) (by simp only [LL];omega)) ?_
     refine SX.E (.int .i64 (((i+1:Nat):Int))) (fun α=>SX.W1 i) ?_
     exact SX.VC_again fun α=>⟨⟨i+1,cur++[z],Eq.trans (b:=[.int .i64 ((i+1:Nat):Int),.agg ([Value.agg (sgsL cur).toArray,Value.agg (([z]).flatMap cellsSg).toArray].flatMap SX.cellsV).toArray]) (by kernel_rfl) (by simp [SX.cellsV,sgsL]),by omega,acc_step hz hacc (by rw [hwk];(try simp only [mirrorS,swapN]);(repeat' split)<;>first|rfl|(exfalso;omega))⟩,cast (by kernel_rfl) (show n-((i+1:Nat):Int).toNat<n-(i:Int).toNat by omega)⟩
    try simp only [NRM]at h36
    refine SX.D (.bool (decide (z.bar>to))) ?_
    refine SX.B (decide (z.bar>to)) (fun h37=>?_) (fun h37=>?_)
    ·try simp only [NRM]at h37
     refine SX.E (.int .i64 (to-fr)) (fun α=>SX.W (to-fr)) ?_
     refine SX.E (.int .i64 ((to-fr)+1)) (fun α=>SX.W ((to-fr)+1)) ?_
     refine SX.E (.int .i64 (z.bar-((to-fr)+1))) (fun α=>SX.W (z.bar-((to-fr)+1))) ?_
     refine SX.E (Value.agg (([(⟨z.id,z.role,z.bar-((to-fr)+1),z.mark,z.kind,z.side,z.dir,z.level,z.size,z.with_,z.fn,z.fd,z.tn,z.td⟩:Sg)]).flatMap cellsSg).toArray) (fun α=>SX.app_rel (f:=cellsSg) (l1:=cur) (l2:=[(⟨z.id,z.role,z.bar-((to-fr)+1),z.mark,z.kind,z.side,z.dir,z.level,z.size,z.with_,z.fn,z.fd,z.tn,z.td⟩:Sg)]) (fun _=>rfl) cellsSg_one (by decide) (SX.cat1 (by kernel_rfl)) (SX.src_own (by kernel_rfl)) (by simp only [LL];omega) (by simp only [LL];omega)) ?_
     refine SX.E (.int .i64 (((i+1:Nat):Int))) (fun α=>SX.W1 i) ?_
     exact SX.VC_again fun α=>⟨⟨i+1,cur++[(⟨z.id,z.role,z.bar-((to-fr)+1),z.mark,z.kind,z.side,z.dir,z.level,z.size,z.with_,z.fn,z.fd,z.tn,z.td⟩:Sg)],Eq.trans (b:=[.int .i64 ((i+1:Nat):Int),.agg ([Value.agg (sgsL cur).toArray,Value.agg (([(⟨z.id,z.role,z.bar-((to-fr)+1),z.mark,z.kind,z.side,z.dir,z.level,z.size,z.with_,z.fn,z.fd,z.tn,z.td⟩:Sg)]).flatMap cellsSg).toArray].flatMap SX.cellsV).toArray]) (by kernel_rfl) (by simp [SX.cellsV,sgsL]),by omega,acc_step hz hacc (by rw [hwk];(try simp only [mirrorS,swapN]);(repeat' split)<;>first|rfl|(exfalso;omega))⟩,cast (by kernel_rfl) (show n-((i+1:Nat):Int).toNat<n-(i:Int).toNat by omega)⟩
    try simp only [NRM]at h37
    refine SX.E (Value.agg (([z]).flatMap cellsSg).toArray) (fun α=>SX.app_rel (f:=cellsSg) (l1:=cur) (l2:=[z]) (fun _=>rfl) cellsSg_one (by decide) (SX.cat1 (by kernel_rfl)) (SX.src_own (by kernel_rfl)) (by simp only [LL];omega) (by simp only [LL];omega)) ?_
    refine SX.E (.int .i64 (((i+1:Nat):Int))) (fun α=>SX.W1 i) ?_
    exact SX.VC_again fun α=>⟨⟨i+1,cur++[z],Eq.trans (b:=[.int .i64 ((i+1:Nat):Int),.agg ([Value.agg (sgsL cur).toArray,Value.agg (([z]).flatMap cellsSg).toArray].flatMap SX.cellsV).toArray]) (by kernel_rfl) (by simp [SX.cellsV,sgsL]),by omega,acc_step hz hacc (by rw [hwk];(try simp only [mirrorS,swapN]);(repeat' split)<;>first|rfl|(exfalso;omega))⟩,cast (by kernel_rfl) (show n-((i+1:Nat):Int).toNat<n-(i:Int).toNat by omega)⟩
   try simp only [NRM]at h33
   refine SX.E (.int .i64 ((chkS cur))) (fun α=>⟨[⟨(α 14).h,14,sgsL cur⟩],⟨Eq.trans (b:=(⟨(α 14).h,14,[Value.agg (sgsL cur).toArray].flatMap SX.cellsV⟩:SX.Arg)) (by simp [SX.cellsV]) (by kernel_rfl),trivial⟩,.inl ⟨rfl,_,cur,rfl,by omega,rfl⟩,SX.noAli rfl⟩) ?_
   refine SX.D (.bool (((chkS cur):Int) != 0)) ?_
   refine SX.B (((chkS cur):Int) != 0) (fun h35=>?_) (fun h35=>?_)
   ·try simp only [NRM]at h35
    have hfact:applyE (⟨3,role,other,fr,to,m,sn,sd,sg⟩:Ed) ss=([],chkS cur):=applyE_out h24 hok (by rw [← hacc,List.take_of_length_le (by omega)]) (by assumption)
    exact SX.VC_ret fun α W _ hR hS=>⟨hS.below,(.slice none 0 0),Eq.trans (b:=Ending.returned (.tuple #[(.slice none 0 0),.int .i64 ((chkS cur))])) (by kernel_rfl) (by rw [hfact]),(by rw [hfact];exact SX.SlRet.nil)⟩
   try simp only [NRM]at h35
   have hfact:applyE (⟨3,role,other,fr,to,m,sn,sd,sg⟩:Ed) ss=(cur,0):=applyE_ok h24 hok (by rw [← hacc,List.take_of_length_le (by omega)]) (by omega)
   exact SX.VC_ret fun α W _ hR hS=>⟨hS.below,(α 14).h,Eq.trans (b:=Ending.returned (.tuple #[(α 14).h,.int .i64 0])) (by kernel_rfl) (by rw [hfact]),SX.SlRet.row hS (n:=14) (b:=(⟨[(.x 32 [])],26,(.row 14)⟩:SX.Blk)) (by kernel_rfl) rfl (hR 14 _ (by kernel_rfl)) (Eq.trans (b:=[Value.agg (sgsL cur).toArray].flatMap SX.cellsV) (by kernel_rfl) (by rw [hfact];simp [SX.cellsV]))⟩
  try simp only [NRM]at h27
  have hfact:applyE (⟨3,role,other,fr,to,m,sn,sd,sg⟩:Ed) ss=([],360):=applyE_no h24 (fun hk=>by first|exact h25 (by rw [← hu];exact hk.2.2.1)|(have:=hrt.1 hk.2.2.2;omega)|(have:=hrt.1 hk.2.2.2;have:=okR_iff2.2 this.2.1;omega))
  exact SX.VC_ret fun α W _ hR hS=>⟨hS.below,(.slice none 0 0),Eq.trans (b:=Ending.returned (.tuple #[(.slice none 0 0),.int .i64 360])) (by kernel_rfl) (by rw [hfact]),(by rw [hfact];exact SX.SlRet.nil)⟩
 try simp only [NRM]at h26
 have hfact:applyE (⟨3,role,other,fr,to,m,sn,sd,sg⟩:Ed) ss=([],360):=applyE_no h24 (fun hk=>by first|exact h25 (by rw [← hu];exact hk.2.2.1)|(have:=hrt.1 hk.2.2.2;omega)|(have:=hrt.1 hk.2.2.2;have:=okR_iff2.2 this.2.1;omega))
 exact SX.VC_ret fun α W _ hR hS=>⟨hS.below,(.slice none 0 0),Eq.trans (b:=Ending.returned (.tuple #[(.slice none 0 0),.int .i64 360])) (by kernel_rfl) (by rw [hfact]),(by rw [hfact];exact SX.SlRet.nil)⟩
def tree_e4:SX.Tree :=
(.df (.call 14 [(.ext 14)]) [(.q 0)] .one
(.df (.bin .neq 31) [(.q 23),(.i 0)] .one
(.br 24 []
(.ret (.t [(.k (.slice none 0 0)),(.q 23)]) [none] [])
(.df (.eqr true 22 [(.i .i64),(.i .i64),(.i .i64),(.i .i64),(.i .i64),(.i .i64),(.i .i64),(.i .i64),(.i .i64),(.i .i64),(.i .i64),(.i .i64),(.i .i64),(.i .i64),(.i .i64),(.i .i64),(.i .i64),(.i .i64),(.i .i64),(.i .i64),(.i .i64),(.i .i64)]) ([(.i 4),(.i 0),(.i 0),(.q 4),(.i 0),(.q 6),(.i 0),(.i 0),(.i 0),(.i 0),(.i 0),(.i 0),(.i 0),(.i 0),(.i 0),(.i 0),(.i 0),(.i 0),(.i 0),(.i 0),(.i 0),(.i 0),(.i 4)]++SX.Z 2 21) .one
(.br 25 []
(.ret (.t [(.k (.slice none 0 0)),(.i 360)]) (List.replicate 10 none) [])
(.df (.bin .geq 3) [(.q 4),(.i 0)] .one
(.br 26 []
(.df (.bin .leq 3) [(.q 4),(.i 4095)] .one
(.br 27 []
(.df (.bin .geq 3) [(.q 6),(.i 1)] .one
(.br 28 []
(.df (.bin .leq 3) [(.q 6),(.i 4095)] .one
(.df .not [(.q 29)] .one
(.br 30 []
(.ret (.t [(.k (.slice none 0 0)),(.i 360)]) (List.replicate 11 none) [])
(.df (.len false) [(.q 0)] .one
(.loop [(.i 0),(.cat [])] [.one,.any]
(.df (.bin .lss 3) [(.q 32),(.q 31)] .one
(.br 34 []
(.df .bnd [(.q 0),(.q 32)] .one
(.df (.elems 14 0 14) [(.q 0),(.q 32)] (.ag 14)
(.df (.bin .geq 3) [(.x 36 [2]),(.q 4)] .one
(.br 37 []
(.df (.bin .add 3) [(.x 36 [2]),(.q 6)] .one
(.df (.app 14 112 (.own 14 ([(.x 36 [0]),(.x 36 [1]),(.q 38)]++SX.Y 36 3 11))) [(.cat [(.q 33)]),(.sl 17 0 1 1)] .any
(.df (.bin .add 3) [(.q 32),(.i 1)] .one
(.again 0 [(.q 40),(.cat [(.q 33),(.q 39)])]))))
(.df (.app 14 112 (.own 14 (SX.Y 36 0 14))) [(.cat [(.q 33)]),(.sl 17 0 1 1)] .any
(.df (.bin .add 3) [(.q 32),(.i 1)] .one
(.again 0 [(.q 39),(.cat [(.q 33),(.q 38)])])))))))
(.df (.call 14 [(.row 14 [(.q 33)])]) [(.row 14)] .one
(.df (.bin .neq 31) [(.q 35),(.i 0)] .one
(.br 36 []
(.ret (.t [(.k (.slice none 0 0)),(.q 35)]) (List.replicate 15 none) [])
(.ret (.t [(.row 14),(.i 0)]) (List.replicate 14 none++[(some ⟨[(.q 33)],26,(.row 14)⟩)]) [])))))))))))
(.ret (.t [(.k (.slice none 0 0)),(.i 360)]) (List.replicate 11 none) [])))
(.ret (.t [(.k (.slice none 0 0)),(.i 360)]) (List.replicate 11 none) [])))
(.ret (.t [(.k (.slice none 0 0)),(.i 360)]) (List.replicate 11 none) []))))))))
def args_e4:List SX.V:=[.x 0 [],.a ([.k (.int .i64 4)]++(List.range 21).map fun j=>.x (2+j) [])]
set_option maxRecDepth 100000 in
theorem run_e4(K A:Value→Nat→List Value→Prop):(SX.run (cxE2 K A) ⟨fun _=>true,[⟨12,13,[(.s 51,.one),(.s 4,.row 14 26)]⟩],2,100⟩ 100000 0 (SX.door 12 Try.f12 args_e4 (List.replicate 23 .one)) [.code (Try.f12.body.getD .skip),.top Try.f12]).strip=tree_e4:=by kernel_rfl
set_option maxRecDepth 100000 in
set_option maxHeartbeats 4000000 in
theorem e4_any(ss:List Sg)(A:Option Addr)(n c:Nat)(role other fr to m sn sd:Int)(sg:Sg)(w:World)(hr:Rd w 14 A n (sgsL ss))(hn:n≤9223372036854775807)(hc:n≤c):Calls Try.prog 12 #[.slice A n c,valE (⟨4,role,other,fr,to,m,sn,sd,sg⟩:Ed)] w fun e w'=>Below w.heap.size w w'∧∃ hdr,e=.returned (.tuple #[hdr,.int .i64 (applyE (⟨4,role,other,fr,to,m,sn,sd,sg⟩:Ed) ss).2])∧SX.SlRet w w' [] hdr 14 (sgsL (applyE (⟨4,role,other,fr,to,m,sn,sd,sg⟩:Ed) ss).1):=by
 refine SX.calls_of_run (C:=cxE2 (fun s sz cells=>s=.slice A n c∧sz=14∧cells=sgsL ss) (fun _ _ _=>False)) (G:=⟨fun _=>true,[⟨12,13,[(.s 51,.one),(.s 4,.row 14 26)]⟩],2,100⟩) (args:=args_e4) (sh:=(List.replicate 23 .one)) (ρ:=([.slice A n c]++cellsE (⟨4,role,other,fr,to,m,sn,sd,sg⟩:Ed))) 100000 tree_e4 (okE2 _ _) Try.func12 rfl (run_e4 _ _) (by kernel_rfl) (by kernel_rfl) (by kernel_rfl) ?_ ?_
 ·rintro W hW s sz cells ⟨rfl,rfl,rfl⟩;exact⟨hr.same0 hW,hc⟩
 have hA:=SX.rd_some hr
 have hln:ss.length=n:=by have:=hr.1;rw [sgsL_len]at this;omega
 have k1:(fun s sz cells=>s=.slice A n c∧sz=14∧cells=sgsL ss) (Value.slice A n c) 14 (sgsL ss):=⟨rfl,rfl,rfl⟩
 have hu:usesE (⟨4,role,other,fr,to,m,sn,sd,sg⟩:Ed)=(⟨4,0,0,fr,0,m,0,0,zeroSg⟩:Ed):=by unfold usesE;rw [if_neg (by show ¬ ((4:Int)=1);decide),if_neg (by show ¬ ((4:Int)=2);decide),if_neg (by show ¬ ((4:Int)=3);decide),if_pos rfl]
 have hrt:rightE (⟨4,role,other,fr,to,m,sn,sd,sg⟩:Ed)↔0≤fr∧fr≤4095∧1≤m∧m≤4095:=by unfold rightE;rw [if_neg (by show ¬ ((4:Int)=1);decide),if_neg (by show ¬ ((4:Int)=2);decide),if_neg (by show ¬ ((4:Int)=3);decide),if_pos rfl];try simp only [roleE,barsE]
 have hwk:∀ z:Sg,workE (⟨4,role,other,fr,to,m,sn,sd,sg⟩:Ed) z=(if fr≤z.bar then some [{ z with bar:=z.bar+m }]else some [z]):=fun z=>by unfold workE;rw [if_neg (by show ¬ ((4:Int)=1);decide),if_neg (by show ¬ ((4:Int)=2);decide),if_neg (by show ¬ ((4:Int)=3);decide),if_pos rfl]
 unfold tree_e4
 refine SX.E (.int .i64 ((chkS ss))) (fun α=>⟨[⟨.slice A n c,14,sgsL ss⟩],⟨by kernel_rfl,rfl,cast (by kernel_rfl) k1,trivial⟩,.inl ⟨rfl,.slice A n c,ss,rfl,by omega,rfl⟩,SX.noAli rfl⟩) ?_
 refine SX.D (.bool (((chkS ss):Int) != 0)) ?_
 refine SX.B (((chkS ss):Int) != 0) (fun h24=>?_) (fun h24=>?_)
 ·try simp only [NRM]at h24
  have hfact:applyE (⟨4,role,other,fr,to,m,sn,sd,sg⟩:Ed) ss=([],chkS ss):=applyE_chk h24
  exact SX.VC_ret fun α W _ hR hS=>⟨hS.below,(.slice none 0 0),Eq.trans (b:=Ending.returned (.tuple #[(.slice none 0 0),.int .i64 ((chkS ss))])) (by kernel_rfl) (by rw [hfact]),(by rw [hfact];exact SX.SlRet.nil)⟩
 try simp only [NRM]at h24
 refine SX.E (.bool (true ^^ decide ((⟨4,0,0,fr,0,m,0,0,zeroSg⟩:Ed)=(⟨4,role,other,fr,to,m,sn,sd,sg⟩:Ed)))) (fun α=>SX.eqr_rel (f:=cellsE) cellsE_inj (y:=(⟨4,0,0,fr,0,m,0,0,zeroSg⟩:Ed)) (z:=(⟨4,role,other,fr,to,m,sn,sd,sg⟩:Ed)) (by kernel_rfl) (by kernel_rfl) (by kernel_rfl)) ?_
 refine SX.B (true ^^ decide ((⟨4,0,0,fr,0,m,0,0,zeroSg⟩:Ed)=(⟨4,role,other,fr,to,m,sn,sd,sg⟩:Ed))) (fun h25=>?_) (fun h25=>?_)
 ·try simp only [NRM]at h25
  have hfact:applyE (⟨4,role,other,fr,to,m,sn,sd,sg⟩:Ed) ss=([],360):=applyE_no h24 (fun hk=>by first|exact h25 (by rw [← hu];exact hk.2.2.1)|(have:=hrt.1 hk.2.2.2;omega)|(have:=hrt.1 hk.2.2.2;have:=okR_iff2.2 this.2.1;omega))
  exact SX.VC_ret fun α W _ hR hS=>⟨hS.below,(.slice none 0 0),Eq.trans (b:=Ending.returned (.tuple #[(.slice none 0 0),.int .i64 360])) (by kernel_rfl) (by rw [hfact]),(by rw [hfact];exact SX.SlRet.nil)⟩
 try simp only [NRM]at h25
 refine SX.D (.bool (decide (fr≥0))) ?_
 refine SX.B (decide (fr≥0)) (fun h26=>?_) (fun h26=>?_)
 ·try simp only [NRM]at h26
  refine SX.D (.bool (decide (fr≤4095))) ?_
  refine SX.B (decide (fr≤4095)) (fun h27=>?_) (fun h27=>?_)
  ·try simp only [NRM]at h27
   refine SX.D (.bool (decide (m≥1))) ?_
   refine SX.B (decide (m≥1)) (fun h28=>?_) (fun h28=>?_)
   ·try simp only [NRM]at h28
    refine SX.D (.bool (decide (m≤4095))) ?_
    refine SX.D (.bool (!(decide (m≤4095)))) ?_
    refine SX.B (!(decide (m≤4095))) (fun h30=>?_) (fun h30=>?_)
    ·try simp only [NRM]at h30
     have hfact:applyE (⟨4,role,other,fr,to,m,sn,sd,sg⟩:Ed) ss=([],360):=applyE_no h24 (fun hk=>by first|exact h25 (by rw [← hu];exact hk.2.2.1)|(have:=hrt.1 hk.2.2.2;omega)|(have:=hrt.1 hk.2.2.2;have:=okR_iff2.2 this.2.1;omega))
     exact SX.VC_ret fun α W _ hR hS=>⟨hS.below,(.slice none 0 0),Eq.trans (b:=Ending.returned (.tuple #[(.slice none 0 0),.int .i64 360])) (by kernel_rfl) (by rw [hfact]),(by rw [hfact];exact SX.SlRet.nil)⟩
    try simp only [NRM]at h30
    refine SX.D (.int .i64 (((n:Nat):Int))) ?_
    have hok:okE (⟨4,role,other,fr,to,m,sn,sd,sg⟩:Ed):=⟨by show(1:Int)≤4;decide,by show(4:Int)≤7;decide,hu.trans h25,hrt.2 (by first|omega|(refine⟨by omega,?_⟩;exact⟨okR_iff2.1 (by assumption),by omega,by omega⟩))⟩
    obtain⟨hss,hs4⟩:=chkS_ok h24
    refine SX.VC_loop (fun xs=>∃ (i:Nat) (cur:List Sg),xs=[.int .i64 (i:Int),.agg (sgsL cur).toArray]∧i≤n∧accE (⟨4,role,other,fr,to,m,sn,sd,sg⟩:Ed) (ss.take i)=some cur) (fun xs=>match xs with|[.int _ i,_]=>n-i.toNat|_=>0) (fun α=>⟨0,[],by kernel_rfl,by omega,rfl⟩) ?_
    rintro xs-⟨i,cur,rfl,hin,hacc⟩
    have hcl:=acc_len hacc
    refine SX.D (.bool (decide (((i:Nat):Int)<((n:Nat):Int)))) ?_
    refine SX.B (decide (((i:Nat):Int)<((n:Nat):Int))) (fun h34=>?_) (fun h34=>?_)
    ·try simp only [NRM]at h34
     obtain⟨z,hz⟩:∃ z,ss[i]?=some z:=⟨_,List.getElem?_eq_getElem (by omega)⟩
     have zb:=hss.1 z (List.mem_of_getElem? hz)
     rw [Sg.ok_iff]at zb
     obtain⟨⟨z1,z2⟩,⟨z3,z4⟩,⟨z5,z6⟩,⟨z7,z8⟩,⟨z9,z10⟩,⟨z11,z12⟩,⟨z13,z14⟩,⟨z15,z16⟩,⟨z17,z18⟩,⟨z19,z20⟩,z21⟩:=zb
     refine SX.E (.bool true) (fun α=>SX.extBnd (A:=A) (n:=n) (c:=c) (j:=i) hA (by kernel_rfl) (by kernel_rfl) (by omega)) ?_
     refine SX.E (.agg (cellsSg z).toArray) (fun α=>SX.extElems (f:=cellsSg) (l:=ss) (A:=A) (n:=n) (c:=c) (j:=i) (z:=z) (fun _=>rfl) hA (by kernel_rfl) (by kernel_rfl) (by omega) (cast (by kernel_rfl) k1) hz) ?_
     refine SX.D (.bool (decide (z.bar≥fr))) ?_
     refine SX.B (decide (z.bar≥fr)) (fun h37=>?_) (fun h37=>?_)
     ·try simp only [NRM]at h37
      refine SX.E (.int .i64 (z.bar+m)) (fun α=>SX.W (z.bar+m)) ?_
      refine SX.E (Value.agg (([(⟨z.id,z.role,z.bar+m,z.mark,z.kind,z.side,z.dir,z.level,z.size,z.with_,z.fn,z.fd,z.tn,z.td⟩:Sg)]).flatMap cellsSg).toArray) (fun α=>SX.app_rel (f:=cellsSg) (l1:=cur) (l2:=[(⟨z.id,z.role,z.bar+m,z.mark,z.kind,z.side,z.dir,z.level,z.size,z.with_,z.fn,z.fd,z.tn,z.td⟩:Sg)]) (fun _=>rfl) cellsSg_one (by decide) (SX.cat1 (by kernel_rfl)) (SX.src_own (by kernel_rfl)) (by simp only [LL];omega) (by simp only [LL];omega)) ?_
      refine SX.E (.int .i64 (((i+1:Nat):Int))) (fun α=>SX.W1 i) ?_
      exact SX.VC_again fun α=>⟨⟨i+1,cur++[(⟨z.id,z.role,z.bar+m,z.mark,z.kind,z.side,z.dir,z.level,z.size,z.with_,z.fn,z.fd,z.tn,z.td⟩:Sg)],Eq.trans (b:=[.int .i64 ((i+1:Nat):Int),.agg ([Value.agg (sgsL cur).toArray,Value.agg (([(⟨z.id,z.role,z.bar+m,z.mark,z.kind,z.side,z.dir,z.level,z.size,z.with_,z.fn,z.fd,z.tn,z.td⟩:Sg)]).flatMap cellsSg).toArray].flatMap SX.cellsV).toArray]) (by kernel_rfl) (by simp [SX.cellsV,sgsL]),by omega,acc_step hz hacc (by rw [hwk];(try simp only [mirrorS,swapN]);(repeat' split)<;>first|rfl|(exfalso;omega))⟩,cast (by kernel_rfl) (show n-((i+1:Nat):Int).toNat<n-(i:Int).toNat by omega)⟩
     try simp only [NRM]at h37
     refine SX.E (Value.agg (([z]).flatMap cellsSg).toArray) (fun α=>SX.app_rel (f:=cellsSg) (l1:=cur) (l2:=[z]) (fun _=>rfl) cellsSg_one (by decide) (SX.cat1 (by kernel_rfl)) (SX.src_own (by kernel_rfl)) (by simp only [LL];omega) (by simp only [LL];omega)) ?_
     refine SX.E (.int .i64 (((i+1:Nat):Int))) (fun α=>SX.W1 i) ?_
     exact SX.VC_again fun α=>⟨⟨i+1,cur++[z],Eq.trans (b:=[.int .i64 ((i+1:Nat):Int),.agg ([Value.agg (sgsL cur).toArray,Value.agg (([z]).flatMap cellsSg).toArray].flatMap SX.cellsV).toArray]) (by kernel_rfl) (by simp [SX.cellsV,sgsL]),by omega,acc_step hz hacc (by rw [hwk];(try simp only [mirrorS,swapN]);(repeat' split)<;>first|rfl|(exfalso;omega))⟩,cast (by kernel_rfl) (show n-((i+1:Nat):Int).toNat<n-(i:Int).toNat by omega)⟩
    try simp only [NRM]at h34
    refine SX.E (.int .i64 ((chkS cur))) (fun α=>⟨[⟨(α 14).h,14,sgsL cur⟩],⟨Eq.trans (b:=(⟨(α 14).h,14,[Value.agg (sgsL cur).toArray].flatMap SX.cellsV⟩:SX.Arg)) (by simp [SX.cellsV]) (by kernel_rfl),trivial⟩,.inl ⟨rfl,_,cur,rfl,by omega,rfl⟩,SX.noAli rfl⟩) ?_
    refine SX.D (.bool (((chkS cur):Int) != 0)) ?_
    refine SX.B (((chkS cur):Int) != 0) (fun h36=>?_) (fun h36=>?_)
    ·try simp only [NRM]at h36
     have hfact:applyE (⟨4,role,other,fr,to,m,sn,sd,sg⟩:Ed) ss=([],chkS cur):=applyE_out h24 hok (by rw [← hacc,List.take_of_length_le (by omega)]) (by assumption)
     exact SX.VC_ret fun α W _ hR hS=>⟨hS.below,(.slice none 0 0),Eq.trans (b:=Ending.returned (.tuple #[(.slice none 0 0),.int .i64 ((chkS cur))])) (by kernel_rfl) (by rw [hfact]),(by rw [hfact];exact SX.SlRet.nil)⟩
    try simp only [NRM]at h36
    have hfact:applyE (⟨4,role,other,fr,to,m,sn,sd,sg⟩:Ed) ss=(cur,0):=applyE_ok h24 hok (by rw [← hacc,List.take_of_length_le (by omega)]) (by omega)
    exact SX.VC_ret fun α W _ hR hS=>⟨hS.below,(α 14).h,Eq.trans (b:=Ending.returned (.tuple #[(α 14).h,.int .i64 0])) (by kernel_rfl) (by rw [hfact]),SX.SlRet.row hS (n:=14) (b:=(⟨[(.x 33 [])],26,(.row 14)⟩:SX.Blk)) (by kernel_rfl) rfl (hR 14 _ (by kernel_rfl)) (Eq.trans (b:=[Value.agg (sgsL cur).toArray].flatMap SX.cellsV) (by kernel_rfl) (by rw [hfact];simp [SX.cellsV]))⟩
   try simp only [NRM]at h28
   have hfact:applyE (⟨4,role,other,fr,to,m,sn,sd,sg⟩:Ed) ss=([],360):=applyE_no h24 (fun hk=>by first|exact h25 (by rw [← hu];exact hk.2.2.1)|(have:=hrt.1 hk.2.2.2;omega)|(have:=hrt.1 hk.2.2.2;have:=okR_iff2.2 this.2.1;omega))
   exact SX.VC_ret fun α W _ hR hS=>⟨hS.below,(.slice none 0 0),Eq.trans (b:=Ending.returned (.tuple #[(.slice none 0 0),.int .i64 360])) (by kernel_rfl) (by rw [hfact]),(by rw [hfact];exact SX.SlRet.nil)⟩
  try simp only [NRM]at h27
  have hfact:applyE (⟨4,role,other,fr,to,m,sn,sd,sg⟩:Ed) ss=([],360):=applyE_no h24 (fun hk=>by first|exact h25 (by rw [← hu];exact hk.2.2.1)|(have:=hrt.1 hk.2.2.2;omega)|(have:=hrt.1 hk.2.2.2;have:=okR_iff2.2 this.2.1;omega))
  exact SX.VC_ret fun α W _ hR hS=>⟨hS.below,(.slice none 0 0),Eq.trans (b:=Ending.returned (.tuple #[(.slice none 0 0),.int .i64 360])) (by kernel_rfl) (by rw [hfact]),(by rw [hfact];exact SX.SlRet.nil)⟩
 try simp only [NRM]at h26
 have hfact:applyE (⟨4,role,other,fr,to,m,sn,sd,sg⟩:Ed) ss=([],360):=applyE_no h24 (fun hk=>by first|exact h25 (by rw [← hu];exact hk.2.2.1)|(have:=hrt.1 hk.2.2.2;omega)|(have:=hrt.1 hk.2.2.2;have:=okR_iff2.2 this.2.1;omega))
 exact SX.VC_ret fun α W _ hR hS=>⟨hS.below,(.slice none 0 0),Eq.trans (b:=Ending.returned (.tuple #[(.slice none 0 0),.int .i64 360])) (by kernel_rfl) (by rw [hfact]),(by rw [hfact];exact SX.SlRet.nil)⟩
end Go.Proofs.Ytnaooclbphaelaa
