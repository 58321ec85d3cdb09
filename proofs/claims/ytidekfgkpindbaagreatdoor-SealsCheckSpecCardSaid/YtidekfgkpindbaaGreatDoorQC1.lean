/-
  Texts behind the statement, part 1.
-/
import Derived.Test.YtidekfgkpindbaaGreatDoorRows
import Derived.WalkKit
import Derived.ProofKit
import Derived.OpenShut
import Derived.Orders
import Derived.StillTail
import Derived.Deep.WholeRow
import Derived.Laws.EntriesVeiled
import Derived.Lib.Hide
import Derived.Maps.AppendAt
import Derived.Laws.Rows
import Derived.Laws.Tables
import Derived.Laws.CopyRow
import Derived.Great.BuildSlice
import Derived.Laws.StructEq
import Derived.DeepKeys
import Derived.Laws.MakeOwn
import Derived.Deep.AppendSrc
import Derived.Deep.DeepAppendWide
import Derived.ChangeMaps5
import Derived.Maps.Keyed
import Derived.CallsIn
import Derived.ControlIn
import Derived.OrdersIn
import Derived.LoopIn
import Derived.TacticsIn
import Derived.RangeFuncIn
import Derived.RangeFuncLeaves
import Derived.RangeFuncCalls
import Derived.RangeFuncBound
import Derived.RangeFuncRecord
set_option linter.unusedSimpArgs false
set_option linter.unusedVariables false
namespace Go.Proofs.YtidekfgkpindbaaGreatDoor
open Go Go.RowKit Go.ChangeShapes Go.WideShapes Go.ChangeAt
section
variable {H:Type}{enc:TypeId×Value→H}{P:Program}
theorem mr(hl:laidOutB P=true){W W':World}(hb:Below W.heap.size W W') :
 ∀ (ts:List TypeId) (vs:List Value) (ds:List (DataW H)) (ps:List MemPlace),(∀ t∈ts,P.readableRec t=true∧t<P.types.size) →
  DataW.TrodAll enc P W 0 (fun _=>true) true ts vs ds ps→(∀ x∈ps,x.block<W.heap.size) →
  DataW.TrodAll enc P W' 0 (fun b=>decide (b<W.heap.size)) true ts vs ds ps
 | [],vs,ds,ps,_,h,_=>by
  obtain⟨rfl,rfl,rfl⟩:=trodAll_nil h
  exact trodAll_mk0
 | t::ts,vs,ds,ps,hr,h,hlt=>by
  obtain⟨v,vs',d,ds',p,q,rfl,rfl,rfl,h1,h2⟩:=trodAll_cons h
  exact trodAll_cons_mk (Below.trod hl (hr t (List.mem_cons_self ..)).1 (hr t (List.mem_cons_self ..)).2 h1 hb (fun x hx=>hlt x (List.mem_append.2 (.inl hx))))
   (mr hl hb ts vs' ds' q (fun u hu=>hr u (List.mem_cons_of_mem _ hu)) h2 (fun x hx=>hlt x (List.mem_append.2 (.inr hx))))
def LZ(P:Program)(ts:List TypeId):Bool:=ts.all fun t=>P.readableRec t && decide (t<P.types.size)
theorem Gz{f:Func}{s:ChangeSpec}{apart fresh handsOn:Bool}{W W':World}{args:Array Value}{ds:List (DataW H)}{before:List MemPlace}{tb:TypeId}
 (hl:laidOutB P=true) (hr:LZ P f.params.toList=true) (hv:s.vars=[])
 (hW:DataW.Whole enc P f.params.toList s.vars apart W args.toList ds [] before) (hb:Below W.heap.size W W')
 (hs:s.fn H (ds++[])={ results:=[.lit (.bool true)],args:=ds }) (hrt:f.resultTypes=#[tb]) (hub:P.underlying tb=some .bool) :
 s.post enc P f apart fresh handsOn false W args (.bool true) W':=by
 have hlt:=hW.lt
 have hW':=hW
 obtain⟨p,q,hA,hV,rfl,_,_⟩:=hW'
 rw [hv]at hV
 obtain⟨_,rfl⟩:=trodVars_none hV
 refine⟨ds,[],p++[],[],p,[],hW,?_,?_,?_,hb.frame _,fun h=>by cases h⟩
 ·rw [hs,hrt]
  exact trodAll_cons_mk (shut_bool hub true) trodAll_mk0
 ·rw [hs]
  refine mr hl hb _ _ _ _ (fun t ht=>?_) hA (fun x hx=>hlt x (List.mem_append.2 (.inl hx)))
  have:=List.all_eq_true.1 hr t ht
  simpa using this
 rw [hs,hv]
 rfl
end
theorem laidOut:laidOutB Tryz.prog=true:=by kernel_rfl
theorem PL:ownKnob Tryz.prog.godebug=none:=by kernel_rfl
end Go.Proofs.YtidekfgkpindbaaGreatDoor
namespace Go.Proofs.YtidekfgkpindbaaGreatDoor
open Go Go.RowKit
theorem af{q p:Prop}(h:q)(k:q→p:=by intro h;simpa using h):p:=k h
theorem al{p:Prop}(h:p:=by exact fun _=>rfl):p:=h
theorem ab{p:Prop}(h:p:=by omega):p:=h
theorem aa{p:Prop}(h:p:=by kernel_rfl):p:=h
theorem aj{p:Prop}(h:p:=by decide):p:=h
theorem ai{p:Prop}(h:p:=by simp):p:=h
theorem aw{p:Prop}(h:p:=by simp;omega):p:=h
def cR(ops:Array Oper)(i:Nat):Option Tmp:=(ops[i]?).bind (·.dst)
def kB(ops:Array Oper)(n:Nat):Bool :=
 (List.range ops.size).all fun i=>((ops[i]?).map fun o=>o.after.all fun e=>decide (e.on<i)).getD true &&
  (match cR ops i with|some d=>decide (d<n) && (List.range ops.size).all fun j=>i == j || cR ops j != some d|none=>true)
def iB(vs:Nat→Value):List Oper→Nat→Array Value→Array Value
 | [],_,t=>t
 | o::l,i,t=>iB vs l (i+1) (match o.dst with|some d=>t.setIfInBounds d (vs i)|none=>t)
theorem count_set:∀ (l:List Bool)(i:Nat)(h:i<l.length),l[i]=false→((l.set i true).filter (! ·)).length+1=(l.filter (! ·)).length
 | [],_,h,_=>by simp at h
 | b::l,0,_,hb=>by
  have:b=false:=hb
  subst this
  simp
 | b::l,i+1,h,hb=>by
  have ih:=count_set l i (af h) (af hb)
  cases b<;>simp_all
section
variable {P:Program}{ops:Array Oper}{Q:Exit→Act→World→Prop}
def Ft(ops:Array Oper)(spec:Nat→Value→World→Prop)(F:World→Prop)(a0:Act)(listed:Array Bool)(b:Act)(W:World):Prop :=
 b.defers=a0.defers∧b.tmps.size=a0.tmps.size∧(∀ t,(∀ j,cR ops j≠some t)→b.tmps.getD t undef=a0.tmps.getD t undef) ∧
 (∀ j d,listed.getD j false=true→cR ops j=some d→spec j (b.tmps.getD d undef) W)∧F W
theorem mA{n i:Nat}{o:Oper}{e:Edge}(h:kB ops n=true)(ho:ops[i]?=some o)(he:e∈o.after):e.on<i:=by
 have hi:i<ops.size:=(Array.getElem?_eq_some_iff.1 ho).1
 have:=List.all_eq_true.1 h i (af hi)
 simp only [Bool.and_eq_true,ho,Option.map_some,Option.getD_some]at this
 have h2:=Array.all_eq_true_iff_forall_mem.1 this.1 e he
 simpa using h2
theorem lD{n i j d:Nat}(h:kB ops n=true)(hi:cR ops i=some d)(hj:cR ops j=some d):i=j∧d<n:=by
 have hlt:∀ k,cR ops k=some d→k<ops.size:=fun k hk=>by
  unfold cR at hk
  cases ho:ops[k]? with
  | none=>rw [ho]at hk;cases hk
  | some o=>exact(Array.getElem?_eq_some_iff.1 ho).1
 have:=List.all_eq_true.1 h i (by simpa using hlt i hi)
 simp only [Bool.and_eq_true,hi]at this
 obtain⟨_,h1,h2⟩:=this
 have h3:=List.all_eq_true.1 h2 j (by simpa using hlt j hj)
 rw [hj]at h3
 simp only [bne_self_eq_false,Bool.or_false,beq_iff_eq]at h3
 exact⟨h3,af h1⟩
theorem pq(vs:Nat→Value):∀ (l:List Oper)(k:Nat)(t:Array Value),(iB vs l k t).size=t.size
 | [],_,_=>rfl
 | o::l,k,t=>by
  unfold iB
  rw [pq vs l]
  cases o.dst<;>simp
theorem ka(vs:Nat→Value)(x:Nat):∀ (l:List Oper)(k:Nat)(t:Array Value),(∀ o∈l,o.dst≠some x)→(iB vs l k t)[x]?=t[x]?
 | [],_,_,_=>rfl
 | o::l,k,t,h=>by
  unfold iB
  rw [ka vs x l (k+1) _ (fun o' ho'=>h o' (List.mem_cons_of_mem _ ho'))]
  cases hd:o.dst with
  | none=>rfl
  | some d =>
   have:d≠x:=fun e=>h o (List.mem_cons_self ..) (by rw [hd,e])
   simp only [Array.getElem?_setIfInBounds_ne this]
theorem uq(vs:Nat→Value)(x:Nat):∀ (l:List Oper)(k j:Nat)(t:Array Value)(o:Oper),l[j]?=some o→o.dst=some x→x<t.size →
 (∀ j' o',l[j']?=some o'→o'.dst=some x→j'=j)→(iB vs l k t)[x]?=some (vs (k+j))
 | [],_,_,_,_,h,_,_,_=>by simp at h
 | o::l,k,0,t,o1,h,hd,hx,hu=>by
  obtain rfl:o=o1:=af h
  unfold iB
  rw [ka vs x l (k+1) _ (fun o' ho' e=>by
   obtain⟨j',hj',rfl⟩:=List.mem_iff_getElem.1 ho'
   have:=hu (j'+1) _ (by simp [hj']) e
   omega),hd]
  simp [hx]
 | o::l,k,j+1,t,o1,h,hd,hx,hu=>by
  unfold iB
  rw [uq vs x l (k+1) j _ o1 (af h) hd (by cases o.dst<;>simp [hx]) (fun j' o' hj' he=>by
   have:=hu (j'+1) o' (af hj') he
   omega)]
  congr 2;omega
theorem put_defers(b:Act)(d:Option Tmp)(v:Value):(b.put d v).defers=b.defers:=by cases d<;>rfl
theorem G5(b:Act)(d:Option Tmp)(v:Value):(b.put d v).tmps.size=b.tmps.size:=by cases d<;>simp [Act.put]
theorem ur(b:Act)(d:Option Tmp)(v:Value)(t:Nat)(h:d≠some t):(b.put d v).tmps.getD t undef=b.tmps.getD t undef:=by
 cases d with
 | none=>rfl
 | some x =>
  have:x≠t:=fun e=>h (by rw [e])
  simp [Act.put,Array.getD_eq_getD_getElem?,Array.getElem?_setIfInBounds_ne this]
theorem G4(b:Act)(t:Nat)(v:Value)(h:t<b.tmps.size):(b.put (some t) v).tmps.getD t undef=v:=by
 simp [Act.put,Array.getD_eq_getD_getElem?,h]
end
def vT(ops:List Oper)(t:Nat):Bool:=ops.all fun o=>o.dst != some t
theorem yq{l:List Oper}{t:Nat}(h:vT l t=true):∀ j,cR l.toArray j≠some t:=fun j hj=>by
 unfold cR at hj
 cases ho:l.toArray[j]? with
 | none=>rw [ho]at hj;cases hj
 | some o =>
  rw [ho]at hj
  have hm:o∈l:=by
   have:l[j]?=some o:=af ho
   exact List.mem_of_getElem? this
  have:=List.all_eq_true.1 h o hm
  simp only [Option.bind_some]at hj
  rw [hj]at this
  simp at this
def KO(P:Program)(l:List Oper)(Q:Exit→Act→World→Prop)(a0:Act)(spec:Nat→Value→World→Prop)(F:World→Prop)(stp:World→World→Prop)(i:Nat)(o:Oper):Prop :=
 ∀ (b:Act) (W:World) (K:Act→World→Prop),(∀ t,vT l t=true→b.eval (.tmp t)=a0.eval (.tmp t)) →
  (∀ e∈o.after,Region.binds .any e=true→∀ d,cR l.toArray e.on=some d→spec e.on (b.eval (.tmp d)) W)→F W →
  (∀ v W',(o.dst≠none→spec i v W')→F W'→stp W W'→K (b.put o.dst v) W') →
  if Region.wanted o (yielded l.toArray b.tmps)=true then o.wp P b W K Q else K (b.put o.dst undef) W
def xg(P:Program)(l:List Oper)(Q:Exit→Act→World→Prop)(a0:Act)(spec:Nat→Value→World→Prop)(F:World→Prop)(stp:World→World→Prop):Nat→List Oper→Prop
 | _,[]=>True
 | i,o::r=>KO P l Q a0 spec F stp i o∧xg P l Q a0 spec F stp (i+1) r
theorem xg.get{P:Program}{l:List Oper}{Q:Exit→Act→World→Prop}{a0:Act}{spec:Nat→Value→World→Prop}{F:World→Prop}{stp:World→World→Prop} :
 ∀ {r:List Oper} {k j:Nat} {o:Oper},xg P l Q a0 spec F stp k r→r[j]?=some o→KO P l Q a0 spec F stp (k+j) o
 | [],_,_,_,_,h=>by simp at h
 | _::_,_,0,_,h,ho=>by
  obtain rfl:=af ho
  exact h.1
 | _::r,k,j+1,_,h,ho=>by
  have:=xg.get (r:=r) (k:=k+1) (j:=j) h.2 (af ho)
  rwa [show k+1+j=k+(j+1) by omega]at this
theorem AE{P:Program}{l:List Oper}{Q:Exit→Act→World→Prop}{a0:Act}{spec:Nat→Value→World→Prop}{F:World→Prop}{stp:World→World→Prop}{i:Nat}{o:Oper}(hg:o.guard=none)
 (h:∀ (b:Act) (W:World) (K:Act→World→Prop),(∀ t,vT l t=true→b.eval (.tmp t)=a0.eval (.tmp t)) →
  (∀ e∈o.after,Region.binds .any e=true→∀ d,cR l.toArray e.on=some d→spec e.on (b.eval (.tmp d)) W)→F W →
  (∀ v W',(o.dst≠none→spec i v W')→F W'→stp W W'→K (b.put o.dst v) W')→o.wp P b W K Q):KO P l Q a0 spec F stp i o:=fun b W K h1 h2 h3 h4=>by
 rw [if_pos (by simp [Region.wanted,hg])]
 exact h b W K h1 h2 h3 h4
def nA(n s:Nat):Array Bool:=(List.replicate n true++List.replicate (s-n) false).toArray
theorem Gh{n:Nat}{listed:Array Bool}(hn:n≤listed.size)(h1:∀ i,i<n→listed.getD i false=true)(h2:∀ i,n≤i→i<listed.size→listed.getD i true=false):listed=nA n listed.size:=by
 apply Array.ext_getElem?
 intro i
 unfold nA
 simp only [List.getElem?_toArray,List.getElem?_append,List.length_replicate,List.getElem?_replicate]
 by_cases hi:i<n
 ·have:=h1 i hi
  simp only [Array.getD,show i<listed.size by omega,dif_pos]at this
  rw [if_pos hi,if_pos hi,Array.getElem?_eq_getElem ab]
  exact congrArg some this
 rw [if_neg hi]
 by_cases hs:i<listed.size
 ·have:=h2 i ab hs
  simp only [Array.getD,hs,dif_pos]at this
  rw [if_pos ab,Array.getElem?_eq_getElem hs]
  exact congrArg some this
 rw [if_neg ab,Array.getElem?_eq_none ab]
theorem Dp{listed:Array Bool}{i:Nat}(h:listed.getD i true=false):0<(listed.toList.filter (! ·)).length:=by
 by_cases hi:i<listed.size
 ·simp only [Array.getD,hi,dif_pos]at h
  have hm:false∈listed.toList.filter (! ·):=by
   rw [List.mem_filter]
   exact⟨by rw [← h];exact Array.getElem_mem_toList hi,rfl⟩
  exact List.length_pos_of_mem hm
 simp [Array.getD,hi]at h
theorem xZ(n s:Nat):((nA n s).toList.filter (! ·)).length=s-n:=by
 unfold nA
 simp [List.filter_append]
section
variable {P:Program}{ops:Array Oper}{Q:Exit→Act→World→Prop}
theorem yF{md:Region.Mode}{m:Nat}(h:kB ops m=true){listed:Array Bool}(hs:listed.size=ops.size):∀ i,i<ops.size→listed.getD i true=false→Region.ready md ops listed≠[]:=by
 intro i
 induction i using Nat.strongRecOn with
 | ind i ih =>
  intro hi hu
  by_cases hall:∀ j,j<i→listed.getD j true=true
  ·have ho:ops[i]?=some ops[i]:=Array.getElem?_eq_getElem hi
   have hm:i∈Region.ready md ops listed:=by
    rw [Region.ready,List.mem_filter]
    refine⟨af hi,?_⟩
    rw [hu,ho]
    simp only [Bool.not_false,Option.map_some,Option.getD_some,Bool.true_and]
    rw [Array.all_eq_true_iff_forall_mem]
    intro e he
    have hlt:=mA h ho he
    have h3:=hall e.on hlt
    have hlt':e.on<listed.size:=ab
    have h4:listed.getD e.on false=true:=by
     simp only [Array.getD_eq_getD_getElem?,Array.getElem?_eq_getElem hlt',Option.getD_some]at h3 ⊢
     exact h3
    rw [h4]
    simp
   intro h0
   rw [h0]at hm
   cases hm
  have ⟨j,hj⟩:=Classical.not_forall.1 hall
  have ⟨hj1,hj2⟩:=Classical.not_imp.1 hj
  exact ih j hj1 ab (af hj2)
theorem BG{md:Region.Mode}{n m:Nat}(hok:kB ops m=true)(hs:Region.sinkB md ops n=true)(hc:Region.chainB md ops n=true)(hn:n<ops.size)(hseq:Region.seqB md ops (ops.size-n) n (nA n ops.size)=true)
 (I:Array Bool→Act→World→Prop)
 (hstep:∀ listed a w i,listed.size=ops.size→I listed a w→i<n→i∈Region.ready md ops listed→wpOp P ops Q i (fun a' w'=>I (listed.setIfInBounds i true) a' w') a w)
 (hend:∀ a w,I (nA n ops.size) a w→wpList P ops Q (ops.toList.drop n) a w) :
 ∀ fuel listed a w,HeadInv md ops n listed→(listed.toList.filter (! ·)).length=fuel→I listed a w→wpAny P md ops Q fuel listed a w:=by
 intro fuel
 induction fuel with
 | zero =>
  intro listed a w inv hf hI
  have:=Dp (inv.tail n (Nat.le_refl _) hn)
  omega
 | succ fuel ih =>
  intro listed a w inv hf hI
  by_cases hall:∀ i,i<n→listed.getD i false=true
  ·have he:=Gh (n:=n) (by rw [inv.size];omega) hall (fun i h1 h2=>inv.tail i h1 (by rw [← inv.size];exact h2))
   rw [inv.size]at he
   have hlen:fuel+1=(ops.toList.drop n).length:=by
    rw [← hf,he,xZ];simp
   rw [hlen]
   subst he
   exact wpAny_of_seq (ops.toList.drop n) n _ a w (fun j=>by simp [List.getElem?_drop]) (af hseq) (hend a w hI)
  have ⟨i,hi⟩:=Classical.not_forall.1 hall
  have ⟨hin,hif⟩:=Classical.not_imp.1 hi
  have hu:listed.getD i true=false:=getD_in (by rw [inv.size];omega) (af hif)
  refine⟨fun h0=>absurd h0 (yF hok inv.size i ab hu),fun j hj=>?_⟩
  have hjn:j<n:=by
   rcases Nat.lt_or_ge j n with h|h
   ·exact h
   exact absurd hj (tail_waits hs hc hn inv _ i rfl hin hu j h)
  refine wpOp_mono (fun a' w' h'=>ih _ a' w' (inv.set hj hjn) ?_ h') (hstep listed a w j inv.size hI hjn hj)
  have hjs:j<listed.toList.length:=by rw [Array.length_toList,inv.size];omega
  have hju:=(mem_ready.1 hj).1
  have hjf:listed.toList[j]=false:=by
   simp only [Array.getD,show j<listed.size by rw [inv.size];omega,dif_pos]at hju
   simpa using hju
  have:=count_set listed.toList j hjs hjf
  rw [Array.toList_setIfInBounds]
  omega
theorem sT{l:List Oper}{id:Nat}{a0:Act}{w:World}(n:Nat)(hm:P.follows .mixedOrders=true)(hok:kB l.toArray a0.tmps.size=true)
 (hB:(Region.sinkB .any l.toArray n && Region.chainB .any l.toArray n && decide (n<l.length) && Region.seqB .any l.toArray (l.length-n) n (nA n l.length))=true)
 (spec:Nat→Value→World→Prop) (F:World→Prop) (stp:World→World→Prop) (hst:∀ j v W W',stp W W'→spec j v W→spec j v W') (hF0:F w.drew)
 (hop:xg P l Q a0 spec F stp 0 (l.take n))
 (hend:∀ (vs:Nat→Value) (W:World),(∀ i d,cR (l.take n).toArray i=some d→spec i (vs i) W)→F W→wpList P l.toArray Q (l.drop n) { tmps:=iB vs (l.take n) 0 a0.tmps,defers:=a0.defers } W) :
 (Code.region id l.toArray true).wp P Q a0 w:=by
 simp only [Bool.and_eq_true,decide_eq_true_eq]at hB
 obtain⟨⟨⟨hs,hc⟩,hn⟩,hseq⟩:=hB
 have hsz:l.toArray.size=l.length:=ai
 have hd1:∀ i d,cR (l.take n).toArray i=some d→cR l.toArray i=some d∧i<n:=fun i d h=>by
  unfold cR at h ⊢
  simp only [List.getElem?_toArray,List.getElem?_take]at h ⊢
  split at h
  ·rename_i hi;exact⟨h,hi⟩
  cases h
 have hd2:∀ i d,i<n→cR l.toArray i=some d→cR (l.take n).toArray i=some d:=fun i d hi h=>by
  unfold cR at h ⊢
  simp only [List.getElem?_toArray,List.getElem?_take,if_pos hi]at h ⊢
  exact h
 refine wp_region_any hm (BG (n:=n) hok hs hc (by rw [hsz];exact hn) (by rw [hsz];exact hseq) (Ft (l.take n).toArray spec F a0) ?_ ?_ _ _ _ _ ?_ ai ?_)
 ·intro listed b W i hss hI hin hi
  obtain⟨h1,h2,h3,h4,h5⟩:=hI
  obtain⟨hu,o,ho,hpre⟩:=mem_ready.1 hi
  have hol:l[i]?=some o:=af ho
  have hob:=hop.get (j:=i) (o:=o) (by rw [List.getElem?_take,if_pos hin];exact hol)
  rw [Nat.zero_add]at hob
  have hilt:i<l.length:=(List.getElem?_eq_some_iff.1 hol).1
  have hob':=hob b W (Ft (l.take n).toArray spec F a0 (listed.setIfInBounds i true)) (fun t ht=>h3 t fun j hj=>yq ht j (hd1 j t hj).1) (fun e he hbd d hd=>by
   have hlt:=mA hok ho he
   refine h4 e.on d ?_ (hd2 e.on d ab hd)
   have h6:=hpre e he hbd
   have:e.on<listed.size:=ab
   simp only [Array.getD,this,dif_pos]at h6 ⊢
   exact h6) h5 (fun v W' hv hF' hs'=>by
    refine⟨(put_defers ..).trans h1,(G5 ..).trans h2,fun t ht=>?_,fun j d hj hd=>?_,hF'⟩
    ·rw [ur _ _ _ _ (fun e=>ht i (hd2 i t hin (by unfold cR;rw [ho];exact e)))]
     exact h3 t ht
    obtain⟨hdj,hjn⟩:=hd1 j d hd
    by_cases e:i=j
    ·subst e
     have hd':o.dst=some d:=by unfold cR at hdj;rw [ho]at hdj;exact hdj
     rw [hd',G4 _ _ _ (by rw [h2];exact(lD hok hdj hdj).2)]
     exact hv (by rw [hd'];simp)
    rw [ur _ _ _ _ (fun e'=>e (lD hok (i:=i) (j:=j) (d:=d) (by unfold cR;rw [ho];exact e') hdj).1)]
    refine hst _ _ _ _ hs' (h4 j d ?_ hd)
    simp only [Array.getD_eq_getD_getElem?,Array.getElem?_setIfInBounds_ne e]at hj ⊢
    exact hj)
  unfold wpOp
  rw [ho]
  dsimp only
  split
  ·rename_i hw;rw [if_pos hw]at hob';exact .inl hob'
  rename_i hw;rw [if_neg hw]at hob';exact hob'
 ·intro b W hI
  obtain⟨h1,h2,h3,h4,h5⟩:=hI
  have hall:∀ i,i<n→(nA n l.toArray.size).getD i false=true:=fun i hi=>by
   unfold nA
   simp [Array.getD_eq_getD_getElem?,List.getElem?_append,hi]
  have he:=hend (fun i=>match cR (l.take n).toArray i with|some d=>b.tmps.getD d undef|none=>undef) W (fun i d hd=>by rw [hd];exact h4 i d (hall i (hd1 i d hd).2) hd) h5
  have hb:b={ tmps:=iB (fun i=>match cR (l.take n).toArray i with|some d=>b.tmps.getD d undef|none=>undef) (l.take n) 0 a0.tmps,defers:=a0.defers }:=by
   cases b with
   | mk bt bd =>
    dsimp only at h1 h2 h3 h4 ⊢
    subst h1
    congr 1
    apply Array.ext_getElem?
    intro x
    by_cases hx:x<bt.size
    ·by_cases hd:∃ j,cR (l.take n).toArray j=some x
     ·obtain⟨j,hj⟩:=hd
      have hj':=hj
      unfold cR at hj'
      cases ho:(l.take n).toArray[j]? with
      | none=>rw [ho]at hj';cases hj'
      | some o =>
       rw [ho]at hj'
       rw [uq _ x (l.take n) 0 j _ o (af ho) hj' ab (fun j' o' hj2 he2=>(lD hok (i:=j') (j:=j) (d:=x) (hd1 j' x (by unfold cR;rw [show(l.take n).toArray[j']?=some o' by simpa using hj2];exact he2)).1 (hd1 j x hj).1).1)]
       rw [Nat.zero_add,hj]
       simp [hx]
     rw [ka _ x (l.take n) 0 _ (fun o ho hd'=>by
      obtain⟨j,hj,rfl⟩:=List.mem_iff_getElem.1 ho
      exact hd ⟨j,by unfold cR;rw [show(l.take n).toArray[j]?=some (l.take n)[j] by simp [List.getElem?_eq_getElem hj]];exact hd'⟩)]
     have:=h3 x (fun j hj=>hd ⟨j,hj⟩)
     simp only [Array.getD_eq_getD_getElem?]at this
     rw [Array.getElem?_eq_getElem hx,Array.getElem?_eq_getElem ab]at this ⊢
     simpa using this
    rw [Array.getElem?_eq_none ab,Array.getElem?_eq_none (by rw [pq];omega)]
  rw [hb]
  simpa using he
 ·exact⟨ai,(fun j oj _ hl=>by rw [getD_replicate_false]at hl;cases hl),fun t _ ht=>getD_in (af ht) (getD_replicate_false _ _)⟩
 exact⟨rfl,rfl,(fun _ _=>rfl),(fun j d hj _=>by rw [getD_replicate_false]at hj;cases hj),hF0⟩
end
def wQ(c:Nat→Bool)(i:Nat):Nat→Bool:=fun j=>if j=i then true else c j
def PQ(P:Program)(l:List Oper)(Q:Exit→Act→World→Prop)(a0:Act)(J:(Nat→Bool)→Act→World→Prop)(i:Nat)(o:Oper):Prop :=
 ∀ (c:Nat→Bool) (b:Act) (W:World) (K:Act→World→Prop),(∀ t,vT l t=true→b.eval (.tmp t)=a0.eval (.tmp t))→b.tmps.size=a0.tmps.size→J c b W→c i=false→(∀ e∈o.after,Region.binds .any e=true→c e.on=true) →
  (∀ v W',J (wQ c i) (b.put o.dst v) W'→K (b.put o.dst v) W')→if Region.wanted o (yielded l.toArray b.tmps)=true then o.wp P b W K Q else K (b.put o.dst undef) W
def IV(P:Program)(l:List Oper)(Q:Exit→Act→World→Prop)(a0:Act)(J:(Nat→Bool)→Act→World→Prop):Nat→List Oper→Prop
 | _,[]=>True
 | i,o::r=>PQ P l Q a0 J i o∧IV P l Q a0 J (i+1) r
theorem IV.get{P:Program}{l:List Oper}{Q:Exit→Act→World→Prop}{a0:Act}{J:(Nat→Bool)→Act→World→Prop} :
 ∀ {r:List Oper} {k j:Nat} {o:Oper},IV P l Q a0 J k r→r[j]?=some o→PQ P l Q a0 J (k+j) o
 | [],_,_,_,_,h=>by simp at h
 | _::_,_,0,_,h,ho=>by
  obtain rfl:=af ho
  exact h.1
 | _::r,k,j+1,_,h,ho=>by
  have:=IV.get (r:=r) (k:=k+1) (j:=j) h.2 (af ho)
  rwa [show k+1+j=k+(j+1) by omega]at this
end Go.Proofs.YtidekfgkpindbaaGreatDoor
namespace Go.Proofs.YtidekfgkpindbaaGreatDoor
open Go Go.RowKit
inductive CT where
 | cells (t:TypeId)
 | map (k:Nat) (ag:Bool)
instance:Coe TypeId CT:=⟨CT.cells⟩
structure Ch where
 id:Nat
 c:Array Value
 t:CT
def tP(ag:Bool)(cs:List Value):Value:=if ag then .agg cs.toArray else cs.headD undef
def qC:Value→Nat
 | .int _ i=>i.toNat
 | _=>0
def yh(k:Nat)(ag:Bool):Nat→List Value→List MapEntry
 | 0,_=>[]
 | n+1,xs=>⟨xs.headD undef,tP ag ((xs.drop 1).take k),qC (xs.getD (k+1) undef)⟩::yh k ag n (xs.drop (k+2))
def vP(k:Nat)(ag:Bool)(c:Array Value):Obj:=.map (yh k ag ((c.toList.length-1) / (k+2)) (c.toList.drop 1)).toArray (qC (c.toList.headD undef))
def Ch.obj(e:Ch):Obj:=match e.t with
 | .cells t=>.cells e.c t (0,0)
 | .map k ag=>vP k ag e.c
structure Ow where
 id:Nat
 o:Obj
def Ow.dS(o:Ow):List Nat:=[o.id]
def bk(hs:List Ch)(os:List Ow):List Nat:=hs.map (·.id)++os.flatMap Ow.dS
structure bp(ids:List Nat)(W W':World):Prop where
 size:W.heap.size≤W'.heap.size
 block:∀ b,b<W.heap.size→b∉ids→W'.heap[b]?=W.heap[b]?
theorem bp.refl(ids:List Nat)(W:World):bp ids W W:=⟨Nat.le_refl _,fun _ _ _=>rfl⟩
theorem bp.trans'{ids ids':List Nat}{W W1 W2:World}(h:bp ids W W1)(h':bp ids' W1 W2)(hi:∀ b,b<W.heap.size→b∉ids→b∉ids'):bp ids W W2 :=
 ⟨Nat.le_trans h.size h'.size,fun b hb hn=>(h'.block b (Nat.lt_of_lt_of_le hb h.size) (hi b hb hn)).trans (h.block b hb hn)⟩
theorem bp.trans{ids:List Nat}{W W1 W2:World}(h:bp ids W W1)(h':bp ids W1 W2):bp ids W W2:=h.trans' h' fun _ _ h=>h
theorem bp.below{ids:List Nat}{W W':World}(h:Below W.heap.size W W'):bp ids W W':=⟨h.size,fun b hb _=>h.block b hb⟩
theorem bp.cell{ids:List Nat}{W W':World}(h:bp ids W W'){p:Addr}(hp:p.block<W.heap.size)(hn:p.block∉ids):W'.cell? p=W.cell? p :=
 World.cell?_of_block (h.block p.block hp hn)
structure fB where
 w:World
 ms:List Nat
 rt:World→Prop
 rf:Nat→Prop
instance:Coe World fB:=⟨fun w=>⟨w,[],fun _=>False,fun _=>False⟩⟩
structure KN(w0:fB)(W:World):Prop where
 os:W.os=w0.w.os
 tape:W.tape=w0.w.tape
 output:W.output=w0.w.output
 size:w0.w.heap.size≤W.heap.size
 block:∀ b,b<w0.w.heap.size→b∉w0.ms→W.heap[b]?=w0.w.heap[b]?
theorem KN.trans{w0:fB}{W W':World}(h:KN w0 W){B:Nat}(hb:Below B W W')(hB:w0.w.heap.size≤B):KN w0 W' :=
 ⟨hb.os.trans h.os,hb.tape.trans h.tape,hb.output.trans h.output,Nat.le_trans h.size hb.size,fun b h1 h2=>(hb.block b ab).trans (h.block b h1 h2)⟩
structure St(w0:fB)(hs:List Ch)(os:List Ow)(ps:List (World→Prop))(W:World):Prop where
 b5:KN w0 W
 dS:∀ e∈hs,(w0.w.heap.size≤e.id∨e.id∈w0.ms)∧W.heap[e.id]?=some e.obj
 own:∀ o∈os,w0.w.heap.size≤o.id∧W.heap[o.id]?=some o.o
 nodup:(bk hs os).Nodup
 pers:∀ p∈ps,∀ W',bp (bk hs os) W W'→p W'
namespace St
variable {w0:fB}{W W':World}{hs hs':List Ch}{os os':List Ow}{ps ps':List (World→Prop)}
theorem below{w:World}{rt:World→Prop}{rf:Nat→Prop}(h:St ⟨w,[],rt,rf⟩ hs os ps W):Below w.heap.size w W:=⟨h.b5.os,h.b5.tape,h.b5.output,h.b5.size,fun b hb=>h.b5.block b hb ai⟩
theorem start(W:World):St W [] [] [] W:=⟨⟨rfl,rfl,rfl,Nat.le_refl _,fun _ _ _=>rfl⟩,(fun _ h=>nomatch h),(fun _ h=>nomatch h),(by simp [bk]),(fun _ h=>nomatch h)⟩
theorem gL(h:St w0 hs os ps W){b:Nat}(hb:b∈bk hs os):(w0.w.heap.size≤b∨b∈w0.ms)∧b<W.heap.size:=by
 rcases List.mem_append.1 hb with hb|hb
 ·obtain⟨e,he,rfl⟩:=List.mem_map.1 hb
  have:=h.dS e he
  exact⟨this.1,(Array.getElem?_eq_some_iff.1 this.2).1⟩
 obtain⟨o,ho,hb⟩:=List.mem_flatMap.1 hb
 obtain rfl:b=o.id:=by simpa [Ow.dS]using hb
 have:=h.own o ho
 exact⟨.inl this.1,(Array.getElem?_eq_some_iff.1 this.2).1⟩
theorem KY(h:St w0 hs os ps W){e:Ch}(he:e∈hs):W.heap[e.id]?=some e.obj:=(h.dS _ he).2
theorem at_(h:St w0 hs os ps W){k:Nat}{c:Array Value}{t:TypeId}(he:(⟨k,c,t⟩:Ch)∈hs):W.heap[k]?=some (.cells c t (0,0)):=(h.dS _ he).2
theorem O8(h:St w0 hs os ps W){k:Nat}{c:Array Value}{t:TypeId}(he:(⟨k,c,t⟩:Ch)∈hs):k<W.heap.size:=(Array.getElem?_eq_some_iff.1 (h.at_ he)).1
theorem DF(h:St w0 hs os ps W){k:Nat}{c:Array Value}{t:TypeId}(he:(⟨k,c,t⟩:Ch)∈hs):w0.w.heap.size≤k∨k∈w0.ms:=(h.dS _ he).1
theorem cell(h:St w0 hs os ps W){k:Nat}{c:Array Value}{t:TypeId}(he:(⟨k,c,t⟩:Ch)∈hs){j:Nat}{v:Value}(hv:c[j]?=some v):W.cell? ⟨k,j,none⟩=some v:=by
 rw [cell_of_row W k j c t (0,0) (h.at_ he),hv]
theorem free(h:St w0 hs os ps W){k:Nat}{c:Array Value}{t:TypeId}(he:(⟨k,c,t⟩:Ch)∈hs)(j:Nat):W.frozen? ⟨k,j,none⟩=false:=frozen_of_row W k j c t (h.at_ he)
theorem fact(h:St w0 hs os ps W){p:World→Prop}(hp:p∈ps):p W:=h.pers p hp W (.refl _ _)
theorem step(h:St w0 hs os ps W)(hb:Below W.heap.size W W'):St w0 hs os ps W' where
 b5:=h.b5.trans hb h.b5.size
 dS e he:=⟨(h.dS e he).1,(hb.block _ (Array.getElem?_eq_some_iff.1 (h.dS e he).2).1).trans (h.dS e he).2⟩
 own o ho:=⟨(h.own o ho).1,(hb.block _ (Array.getElem?_eq_some_iff.1 (h.own o ho).2).1).trans (h.own o ho).2⟩
 nodup:=h.nodup
 pers p hp W2 h2:=h.pers p hp W2 ((bp.below hb).trans h2)
theorem drew(h:St w0 hs os ps W):St w0 hs os ps W.drew:=h.step (Below.refl _ _).drew
theorem cA(W:World)(o:Obj):Below W.heap.size W (W.alloc o):=(Below.refl _ _).alloc (Nat.le_refl _) _
theorem new(h:St w0 hs os ps W)(c:Array Value)(t:TypeId):St w0 (⟨W.heap.size,c,t⟩::hs) os ps (W.alloc (.cells c t)):=by
 have h':=h.step (cA W (.cells c t))
 refine⟨h'.b5,fun e he=>?_,h'.own,?_,fun p hp W2 h2=>h.pers p hp W2 ?_⟩
 ·rcases List.mem_cons.1 he with rfl|he
  ·exact⟨.inl h.b5.size,heap_alloc_last W _⟩
  exact h'.dS e he
 ·show(W.heap.size::bk hs os).Nodup
  exact List.nodup_cons.2 ⟨fun hm=>by have:=(h.gL hm).2;omega,h.nodup⟩
 refine(bp.below (cA W (.cells c t))).trans' h2 fun b hb hn hm=>?_
 have hm':b∈W.heap.size::bk hs os:=hm
 rcases List.mem_cons.1 hm' with rfl|hm'
 ·omega
 exact hn hm'
theorem Pa(h:St w0 hs os ps W)(c:Array Value)(t:CT):St w0 (⟨W.heap.size,c,t⟩::hs) os ps (W.alloc (Ch.obj ⟨W.heap.size,c,t⟩)):=by
 have h':=h.step (cA W (Ch.obj ⟨W.heap.size,c,t⟩))
 refine⟨h'.b5,fun e he=>?_,h'.own,?_,fun p hp W2 h2=>h.pers p hp W2 ?_⟩
 ·rcases List.mem_cons.1 he with rfl|he
  ·exact⟨.inl h.b5.size,heap_alloc_last W _⟩
  exact h'.dS e he
 ·show(W.heap.size::bk hs os).Nodup
  exact List.nodup_cons.2 ⟨fun hm=>by have:=(h.gL hm).2;omega,h.nodup⟩
 refine(bp.below (cA W (Ch.obj ⟨W.heap.size,c,t⟩))).trans' h2 fun b hb hn hm=>?_
 have hm':b∈W.heap.size::bk hs os:=hm
 rcases List.mem_cons.1 hm' with rfl|hm'
 ·omega
 exact hn hm'
theorem ME(h:St w0 hs os ps W){k:Nat}{c:Array Value}{t:TypeId}(hk:W.heap[k]?=some (.cells c t (0,0)))(h0:w0.w.heap.size≤k∨k∈w0.ms)(hn:k∉bk hs os)(hps:∀ p∈ps,∀ W',bp (k::bk hs os) W W'→p W') :
 St w0 (⟨k,c,t⟩::hs) os ps W:=by
 refine⟨h.b5,fun e he=>?_,h.own,?_,hps⟩
 ·rcases List.mem_cons.1 he with rfl|he
  ·exact⟨h0,hk⟩
  exact h.dS e he
 show(k::bk hs os).Nodup
 exact List.nodup_cons.2 ⟨hn,h.nodup⟩
theorem made(h:St w0 hs os ps W)(hb:Below W.heap.size W W'){k:Nat}{c:Array Value}{t:TypeId}(hk:W'.heap[k]?=some (.cells c t (0,0)))(hn:W.heap.size≤k):St w0 (⟨k,c,t⟩::hs) os ps W':=by
 refine(h.step hb).ME hk (.inl (Nat.le_trans h.b5.size hn)) (fun hm=>by have:=(h.gL hm).2;omega) fun p hp W2 h2=>h.pers p hp W2 ?_
 refine(bp.below hb).trans' h2 fun b hb' hn' hm=>?_
 rcases List.mem_cons.1 hm with rfl|hm
 ·omega
 exact hn' hm
theorem eO(h:St w0 hs os ps W){p:World→Prop}(hp:∀ W',bp (bk hs os) W W'→p W'):St w0 hs os (p::ps) W :=
 ⟨h.b5,h.dS,h.own,h.nodup,fun q hq=>by
  rcases List.mem_cons.1 hq with rfl|hq
  ·exact hp
  exact h.pers q hq⟩
theorem Kw(h:St w0 hs os ps W){p:World→Prop}(hp:∀ W',bp w0.ms w0.w W'→p W'):St w0 hs os (p::ps) W :=
 h.eO fun W' hW=>hp W' ⟨Nat.le_trans h.b5.size hW.size,fun k hk hkm =>
  (hW.block k (Nat.lt_of_lt_of_le hk h.b5.size) (fun hm=>by
   rcases(h.gL hm).1 with h1|h1;· omega
   exact hkm h1)).trans (h.b5.block k hk hkm)⟩
theorem Ip{α β:Type}(f:α→List β){l l':List α}(h:List.Sublist l' l):List.Sublist (l'.flatMap f) (l.flatMap f):=by
 induction h with
 | slnil=>simp
 | cons a _ ih=>simpa using ih.trans (List.sublist_append_right _ _)
 | cons_cons a _ ih=>simpa using (List.Sublist.refl (f a)).append ih
theorem oW(h:St w0 hs os ps W)(hh:List.Sublist hs' hs)(ho:List.Sublist os' os)(hp:∀ p∈ps',p∈ps):St w0 hs' os' ps' W:=by
 have hsub:List.Sublist (bk hs' os') (bk hs os):=(hh.map _).append (Ip _ ho)
 exact⟨h.b5,fun e he=>h.dS e (hh.subset he),fun o he=>h.own o (ho.subset he),h.nodup.sublist hsub,fun p hpp W' hW=>h.pers p (hp p hpp) W' ⟨hW.size,fun b hb hn=>hW.block b hb fun hm=>hn (hsub.subset hm)⟩⟩
theorem perm(h:St w0 hs os ps W)(hp:hs.Perm hs'):St w0 hs' os ps W:=by
 have hm:(bk hs os).Perm (bk hs' os):=(hp.map _).append_right _
 exact⟨h.b5,fun e he=>h.dS e (hp.mem_iff.2 he),h.own,hm.nodup_iff.1 h.nodup,fun p hpp W' hW=>h.pers p hpp W' ⟨hW.size,fun b hb hn=>hW.block b hb fun hq=>hn (hm.mem_iff.2 hq)⟩⟩
end St
theorem fE(a:Addr)(n:Nat):(a.add n).block=a.block:=by unfold Addr.add;split<;>rfl
theorem jO(a:Addr)(i j:Nat):(a.add i).add j=a.add (i+j):=by
 unfold Addr.add
 by_cases hi:i=0<;>by_cases hj:j=0<;>simp [hi,hj,Nat.add_assoc]
def Rd(W:World)(size:Nat)(A:Option Addr)(n:Nat)(xs:List Value):Prop :=
 xs.length=n*size∧(0<n→∃ ad,A=some ad∧ad.block<W.heap.size∧∀ j u,xs[j]?=some u→W.cell? (ad.add j)=some u)
section
variable {W W':World}{size n:Nat}{A:Option Addr}{xs:List Value}
theorem Rd.none_:Rd W size A 0 []:=⟨ai,fun h=>absurd h ab⟩
theorem Rd.at_{k:Nat}(h:Rd W 1 A n xs)(hk:k<n):∃ ad u,A=some ad∧xs[k]?=some u∧W.cell? (ad.add k)=some u:=by
 obtain⟨ad,e,hb,hc⟩:=h.2 ab
 have hl:k<xs.length:=by have:=h.1;omega
 exact⟨ad,xs[k],e,List.getElem?_eq_getElem hl,hc k _ (List.getElem?_eq_getElem hl)⟩
theorem Rd.same{ids:List Nat}(h:Rd W size A n xs)(hs:bp ids W W')(hn:∀ ad,A=some ad→ad.block∉ids):Rd W' size A n xs :=
 ⟨h.1,fun h0=>by
  obtain⟨ad,e,hb,hc⟩:=h.2 h0
  exact⟨ad,e,Nat.lt_of_lt_of_le hb hs.size,fun j u hu=>(hs.cell (p:=ad.add j) (by rw [fE];exact hb) (by rw [fE];exact hn ad e)).trans (hc j u hu)⟩⟩
theorem Rd.aJ(h:Rd W size A n xs)(hs:bp [] W W'):Rd W' size A n xs:=h.same hs fun _ _ h=>nomatch h
theorem Rd.below(h:Rd W size A n xs)(hb:Below W.heap.size W W'):Rd W' size A n xs:=h.aJ (.below hb)
theorem Rd.cut(h:Rd W size A n xs){k cap:Nat}(hk:k≤n)(hc:n≤cap) :
 Rd W size (if cap=k then A else A.map (·.add (k*size))) (n-k) (xs.drop (k*size)):=by
 refine⟨by rw [List.length_drop,h.1,Nat.sub_mul],fun hn=>?_⟩
 obtain⟨ad,rfl,hb,hcell⟩:=h.2 ab
 rw [if_neg ab]
 refine⟨ad.add (k*size),rfl,by rw [fE];exact hb,fun j u hu=>?_⟩
 rw [jO]
 exact hcell _ u (by rw [← hu,List.getElem?_drop])
theorem Rd.take(h:Rd W size A n xs){k:Nat}(hk:k≤n):Rd W size A k (xs.take (k*size)):=by
 refine⟨by rw [List.length_take,h.1];exact Nat.min_eq_left (Nat.mul_le_mul_right _ hk),fun hn=>?_⟩
 obtain⟨ad,rfl,hb,hcell⟩:=h.2 ab
 refine⟨ad,rfl,hb,fun j u hu=>hcell j u ?_⟩
 rw [List.getElem?_take]at hu
 split at hu
 ·exact hu
 cases hu
theorem Rd.mL{b off:Nat}{c:Array Value}{t:TypeId}(h:W.heap[b]?=some (.cells c t (0,0))){xs:List Value}(hl:xs.length=n*size)(hx:∀ j u,xs[j]?=some u→c[off+j]?=some u):Rd W size (some ⟨b,off,none⟩) n xs :=
 ⟨hl,fun _=>⟨_,rfl,(Array.getElem?_eq_some_iff.1 h).1,fun j u hu=>by
  have hadd:(⟨b,off,none⟩:Addr).add j=⟨b,off+j,none⟩:=by unfold Addr.add;split<;>simp_all
  rw [hadd,cell_of_row W b _ c t (0,0) h]
  exact hx j u hu⟩⟩
theorem Rd.LQ{b n:Nat}{c:Array Value}{t:TypeId}(h:W.heap[b]?=some (.cells c t (0,0))){xs:List Value}(hc:c.toList=xs)(hl:xs.length=n*size):Rd W size (some ⟨b,0,none⟩) n xs :=
 Rd.mL h hl fun j u hu=>by rw [Nat.zero_add,← Array.getElem?_toList,hc];exact hu
theorem Rd.j8{b n off:Nat}{c:Array Value}{t:TypeId}(h:W.heap[b]?=some (.cells c t (0,0))){xs:List Value}(hc:(c.toList.drop off).take (n*size)=xs)(hl:xs.length=n*size):Rd W size (some ⟨b,off,none⟩) n xs :=
 Rd.mL h hl fun j u hu=>by
  rw [← hc,List.getElem?_take]at hu
  split at hu
  ·rw [List.getElem?_drop]at hu
   rw [← Array.getElem?_toList];exact hu
  cases hu
end
end Go.Proofs.YtidekfgkpindbaaGreatDoor
namespace Go.Proofs.YtidekfgkpindbaaGreatDoor
open Go Go.RowKit
def zeroOf(P:Program)(t:TypeId):Option Value:=(P.info? t).bind (·.zero)
def aT(P:Program)(t:TypeId):Option Nat:=(P.info? t).map (·.size)
def rowOf(P:Program)(t:TypeId):Option Bool:=(P.underlying t).map fun d=>match d with|.struct _|.array _ _=>true|_=>false
section
variable {P:Program}
theorem mS{t:TypeId}{z:Value}(h:zeroOf P t=some z)(w:World):(zeroValue t).run P w=.ok z w:=by
 unfold zeroOf at h
 cases hq:P.info? t with
 | none=>simp [hq]at h
 | some i =>
  have hz:i.zero=some z:=by simpa [hq]using h
  simp [zeroValue,typeInfo,hq,hz]
theorem cv{t:TypeId}{n:Nat}(h:aT P t=some n)(w:World):(sizeOf t).run P w=.ok n w:=by
 unfold aT at h
 cases hq:P.info? t with
 | none=>simp [hq]at h
 | some i =>
  have hz:i.size=n:=by simpa [hq]using h
  simp [sizeOf,typeInfo,hq,hz]
theorem c9{t:TypeId}{b:Bool}(h:rowOf P t=some b)(w:World):(isAgg t).run P w=.ok b w:=by
 unfold rowOf at h
 cases hq:P.underlying t with
 | none=>simp [hq]at h
 | some d =>
  rw [hq]at h
  unfold isAgg
  rw [Sem.run_bind,run_underlying hq w]
  cases d<;>simp_all
theorem cJ(k j i:Nat):(⟨k,j,none⟩:Addr).add i=⟨k,j+i,none⟩:=by unfold Addr.add;split<;>simp_all
theorem kb{w:World}{k off n:Nat}{c:Array Value}{t ty:TypeId}(hg:w.heap[k]?=some (.cells c t (0,0)))(hr:rowOf P ty=some true)(hs:aT P ty=some n)(hlt:off+n≤c.size) :
 (loadVar ty ⟨k,off,none⟩).run P w=.ok (.agg (c.extract off (off+n))) w:=by
 have hl:=run_loadCells_list (P:=P) w ⟨k,off,none⟩ (c.extract off (off+n)).toList (fun j v hv=>by
  rw [cJ,cell_of_row w k _ c t (0,0) hg]
  have:(c.extract off (off+n))[j]?=some v:=by rw [← hv,Array.getElem?_toList]
  rw [Array.getElem?_extract]at this
  split at this
  ·exact this
  cases this)
 have he:(c.extract off (off+n)).toList.length=n:=aw
 rw [he]at hl
 simp only [Array.toArray_toList]at hl
 simp [loadVar,Sem.run_bind,c9 hr,cv hs,hl]
theorem nO{w:World}{k off:Nat}{c:Array Value}{v:Value}{t ty:TypeId}(hg:w.heap[k]?=some (.cells c t (0,0)))(hr:rowOf P ty=some false)(hv:c[off]?=some v) :
 (loadVar ty ⟨k,off,none⟩).run P w=.ok v w:=by
 have hc:w.cell? ⟨k,off,none⟩=some v:=by rw [cell_of_row w k off c t (0,0) hg,hv]
 simp [loadVar,Sem.run_bind,c9 hr,hc]
theorem te{w:World}{ad:Addr}{v:Value}{ty:TypeId}(hr:rowOf P ty=some false)(hc:w.cell? ad=some v):(loadVar ty ad).run P w=.ok v w:=by
 simp [loadVar,Sem.run_bind,c9 hr,hc]
def cO(c:Array Value)(off:Nat)(cs:Array Value):Array Value:=(c.toList.take off++cs.toList++c.toList.drop (off+cs.size)).toArray
theorem tg{w:World}{k off:Nat}{c cs:Array Value}{t ty:TypeId}(hg:w.heap[k]?=some (.cells c t (0,0)))(hs:aT P ty=some cs.size)(hlt:off+cs.size≤c.size)(h1:cs.all (·.oneCell')=true) :
 (storeVar ty ⟨k,off,none⟩ (.agg cs)).run P w=.ok () (w.setRow k (cO c off cs)):=by
 have:=run_storeCells_at (P:=P) k off t cs.toList 0 c w hg aw (fun v hv=>(Array.all_eq_true_iff_forall_mem.1 h1) v (af hv))
 simp only [Nat.add_zero,Array.length_toList]at this
 simp [storeVar,Sem.run_bind,cv hs,Value.cells,this,cO]
theorem tf{w:World}{k off:Nat}{c:Array Value}{v:Value}{t ty:TypeId}(hg:w.heap[k]?=some (.cells c t (0,0)))(hs:aT P ty=some 1)(hlt:off<c.size)(h1:v.oneCell'=true) :
 (storeVar ty ⟨k,off,none⟩ v).run P w=.ok () (w.setRow k (c.setIfInBounds off v)):=by
 have hc:w.cell? ⟨k,off,none⟩=some c[off]:=by rw [cell_of_row w k off c t (0,0) hg];simp [hlt]
 have hf:w.frozen? ⟨k,off,none⟩=false:=frozen_of_row w k off c t hg
 have hcells:v.cells=#[v]:=by cases v<;>first|rfl|simp [Value.oneCell']at h1
 have hst:(store ⟨k,off,none⟩ v).run P w=.ok () (w.setRow k (c.setIfInBounds off v)):=by
  rw [run_store P w _ v _ h1,hc]
  simp [hf,setCell_eq_setRow w k off c t (0,0) v hg]
 have hst':(store ((⟨k,off,none⟩:Addr).add 0) v).run P w=.ok () (w.setRow k (c.setIfInBounds off v)):=hst
 simp [storeVar,Sem.run_bind,cv hs,hcells,storeCells,hst']
end
def mm:List Value→Nat→Option Value
 | [],_=>none
 | x::_,0=>some x
 | _::l,n+1=>mm l n
theorem dH:∀ (l:List Value)(n:Nat),mm l n=l[n]?
 | [],_=>rfl
 | x::_,0=>rfl
 | _::l,n+1=>by simpa [mm]using dH l n
def Ib:List Value→Nat→Value→List Value
 | [],_,_=>[]
 | _::l,0,v=>v::l
 | x::l,n+1,v=>x::Ib l n v
theorem wG:∀ (l:List Value)(n:Nat)(v:Value),Ib l n v=l.set n v
 | [],_,_=>rfl
 | x::_,0,_=>rfl
 | x::l,n+1,v=>by simp [Ib,wG l n v]
inductive mj (k:Nat) (c:Array Value) (t:CT) (c':Array Value):List Ch→List Ch→Prop
 | here {hs:List Ch}:mj k c t c' (⟨k,c,t⟩::hs) (⟨k,c',t⟩::hs)
 | there {e:Ch} {hs hs':List Ch}:mj k c t c' hs hs'→mj k c t c' (e::hs) (e::hs')
theorem mj.dN{k:Nat}{c c':Array Value}{t:CT}{hs hs':List Ch}(h:mj k c t c' hs hs'):∀ X:List Ch,mj k c t c' (X++hs) (X++hs')
 | []=>h
 | _::X=>.there (mj.dN h X)
theorem mj.mem{k:Nat}{c c':Array Value}{t:CT}{hs hs':List Ch}(h:mj k c t c' hs hs'):(⟨k,c,t⟩:Ch)∈hs:=by
 induction h with
 | here=>exact List.mem_cons_self ..
 | there _ ih=>exact List.mem_cons_of_mem _ ih
theorem mj.ids{k:Nat}{c c':Array Value}{t:CT}{hs hs':List Ch}(h:mj k c t c' hs hs'):hs'.map (·.id)=hs.map (·.id):=by
 induction h with
 | here=>rfl
 | there _ ih=>simp [ih]
theorem mj.of{k:Nat}{c c':Array Value}{t:CT}{hs hs':List Ch}(h:mj k c t c' hs hs')(hn:(hs.map (·.id)).Nodup):∀ e∈hs',(e=⟨k,c',t⟩)∨(e∈hs∧e.id≠k):=by
 induction h with
 | here =>
  intro e he
  simp only [List.map_cons,List.nodup_cons]at hn
  rcases List.mem_cons.1 he with rfl|he
  ·exact .inl rfl
  exact .inr ⟨List.mem_cons_of_mem _ he,fun h=>hn.1 (h▸List.mem_map_of_mem he)⟩
 | there hu ih =>
  intro e he
  simp only [List.map_cons,List.nodup_cons]at hn
  rcases List.mem_cons.1 he with rfl|he
  ·exact .inr ⟨List.mem_cons_self ..,fun h=>hn.1 (by rw [h];exact List.mem_map_of_mem (f:=(·.id)) hu.mem)⟩
  rcases ih hn.2 e he with h|⟨h,h'⟩
  ·exact .inl h
  exact .inr ⟨List.mem_cons_of_mem _ h,h'⟩
theorem eA(W:World)(k b:Nat)(c:Array Value)(h:b≠k):(W.setRow k c).heap[b]?=W.heap[b]?:=by
 unfold World.setRow
 rw [Array.getElem?_modify,if_neg (fun e=>h e.symm)]
theorem KN.row{w0:fB}{W:World}(h:KN w0 W){k:Nat}(hk:w0.w.heap.size≤k∨k∈w0.ms)(c:Array Value):KN w0 (W.setRow k c):=by
 refine⟨h.os,h.tape,h.output,by simpa using h.size,fun b h1 h2=>?_⟩
 have hne:b≠k:=by
  intro e
  subst e
  rcases hk with hk|hk
  ·omega
  exact h2 hk
 exact(eA W k b c hne).trans (h.block b h1 h2)
theorem St.put{w0:fB}{W:World}{hs hs':List Ch}{os:List Ow}{ps:List (World→Prop)}(h:St w0 hs os ps W){k:Nat}{c c':Array Value}{t:TypeId}(hu:mj k c t c' hs hs'):St w0 hs' os ps (W.setRow k c'):=by
 have hm:bk hs' os=bk hs os:=by unfold bk;rw [hu.ids]
 have hat:=h.at_ hu.mem
 have hn:(hs.map (·.id)).Nodup:=(List.nodup_append.1 h.nodup).1
 have hkm:k∈hs.map (·.id):=List.mem_map_of_mem (f:=(·.id)) hu.mem
 have hko:k∉os.flatMap Ow.dS:=fun h2=>(List.nodup_append.1 h.nodup).2.2 k hkm k h2 rfl
 have hblk:(W.setRow k c').heap[k]?=some (.cells c' t (0,0)):=setRow_heap W k c c' t _ hat
 refine⟨h.b5.row (h.DF hu.mem) c',fun e he=>?_,fun o ho=>?_,by rw [hm];exact h.nodup,fun p hp W2 h2=>h.pers p hp W2 ?_⟩
 ·rcases hu.of hn e he with rfl|⟨he,hne⟩
  ·exact⟨h.DF hu.mem,hblk⟩
  exact⟨(h.dS e he).1,(eA W k _ c' hne).trans (h.dS e he).2⟩
 ·exact⟨(h.own o ho).1,(eA W k _ c' fun e=>hko (e▸List.mem_flatMap.2 ⟨o,ho,by simp [Ow.dS]⟩)).trans (h.own o ho).2⟩
 rw [hm]at h2
 refine bp.trans ⟨ai,fun b hb hnb=>eA W k b c' fun e=>hnb ?_⟩ h2
 subst e
 exact List.mem_append.2 (.inl hkm)
theorem St.NH{w0:fB}{W:World}{hs hs':List Ch}{os:List Ow}{ps:List (World→Prop)}(h:St w0 hs os ps W){k:Nat}{c c':Array Value}{t:CT}(hu:mj k c t c' hs hs'):St w0 hs' os ps { W with heap:=W.heap.setIfInBounds k (Ch.obj ⟨k,c',t⟩) }:=by
 have hm:bk hs' os=bk hs os:=by unfold bk;rw [hu.ids]
 have hat:=h.KY hu.mem
 have hlt:k<W.heap.size:=(Array.getElem?_eq_some_iff.1 hat).1
 have hn:(hs.map (·.id)).Nodup:=(List.nodup_append.1 h.nodup).1
 have hkm:k∈hs.map (·.id):=List.mem_map_of_mem (f:=(·.id)) hu.mem
 have hko:k∉os.flatMap Ow.dS:=fun h2=>(List.nodup_append.1 h.nodup).2.2 k hkm k h2 rfl
 have hsame:(W.heap.setIfInBounds k (Ch.obj ⟨k,c',t⟩))[k]?=some (Ch.obj ⟨k,c',t⟩):=by
  rw [Array.getElem?_setIfInBounds];simp [hlt]
 have hoth:∀ b,b≠k→(W.heap.setIfInBounds k (Ch.obj ⟨k,c',t⟩))[b]?=W.heap[b]?:=fun b hb=>by
  rw [Array.getElem?_setIfInBounds,if_neg (fun e=>hb e.symm)]
 have hge:=(h.dS _ hu.mem).1
 refine⟨⟨h.b5.os,h.b5.tape,h.b5.output,by simpa using h.b5.size,fun b h1 h2=>?_⟩,fun e he=>?_,fun o ho=>?_,by rw [hm];exact h.nodup,fun p hp W2 h2=>h.pers p hp W2 ?_⟩
 ·have hne:b≠k:=by
   intro e
   subst e
   rcases hge with hge|hge
   ·exact absurd h1 (by simp only at hge;omega)
   exact h2 hge
  exact(hoth b hne).trans (h.b5.block b h1 h2)
 ·rcases hu.of hn e he with rfl|⟨he,hne⟩
  ·exact⟨hge,hsame⟩
  exact⟨(h.dS e he).1,(hoth _ hne).trans (h.dS e he).2⟩
 ·exact⟨(h.own o ho).1,(hoth _ fun e=>hko (e▸List.mem_flatMap.2 ⟨o,ho,by simp [Ow.dS]⟩)).trans (h.own o ho).2⟩
 rw [hm]at h2
 refine bp.trans ⟨ai,fun b hb hnb=>hoth b fun e=>hnb ?_⟩ h2
 subst e
 exact List.mem_append.2 (.inl hkm)
def O4 (a:Act):Operand→Option Value
 | .tmp t=>mm a.tmps.toList t
 | .const v=>some v
 | .global g=>some (.pointer (some ⟨g,0,none⟩))
 | .func f=>some (.func (.func f) #[] #[])
theorem dm{a:Act}{x:Operand}{v:Value}(h:O4 a x=some v):a.eval x=v:=by
 cases x with
 | tmp t =>
  simp only [O4,dH,Array.getElem?_toList]at h
  simp [Act.eval,Array.getD_eq_getD_getElem?,h]
 | _=>simpa [O4,Act.eval]using h
section
variable {P:Program}{a:Act}{w0:fB}{W:World}{K:Act→World→Prop}{Q:Exit→Act→World→Prop}{o:Oper}{hs hs':List Ch}{os:List Ow}{ps:List (World→Prop)}
theorem iL{t:TypeId}{x:Operand}(ho:o.op=.box t x){c:Array Value}(hx:a.eval x=.agg c)(hS:St w0 hs os ps W)
 (h:∀ k W',St w0 (⟨k,c,t⟩::hs) os ps W'→Below W.heap.size W W'→W.heap.size≤k→K (a.put o.dst (.pointer (some ⟨k,0,none⟩))) W'):o.wp P a W K Q:=by
 unfold Oper.wp execOp
 simp only [ho,hx,Instr.box,newVar,newRow,Value.cells]
 simp [go_sem]
 exact h _ _ (hS.new c t) (St.cA _ _) (Nat.le_refl _)
theorem iK{t:TypeId}{x:Operand}(ho:o.op=.box t x){v:Value}(hx:a.eval x=v)(h1:v.oneCell'=true)(hS:St w0 hs os ps W)
 (h:∀ k W',St w0 (⟨k,#[v],t⟩::hs) os ps W'→Below W.heap.size W W'→W.heap.size≤k→K (a.put o.dst (.pointer (some ⟨k,0,none⟩))) W'):o.wp P a W K Q:=by
 have hcells:v.cells=#[v]:=by cases v<;>first|rfl|simp [Value.oneCell']at h1
 unfold Oper.wp execOp
 simp only [ho,hx,Instr.box,newVar,newRow,hcells]
 simp [go_sem]
 exact h _ _ (hS.new #[v] t) (St.cA _ _) (Nat.le_refl _)
theorem wX{t:TypeId}(ho:o.op=.alloc t){c:Array Value}(hz:zeroOf P t=some (.agg c))(hS:St w0 hs os ps W)
 (h:∀ k W',St w0 (⟨k,c,t⟩::hs) os ps W'→Below W.heap.size W W'→W.heap.size≤k→K (a.put o.dst (.pointer (some ⟨k,0,none⟩))) W'):o.wp P a W K Q:=by
 unfold Oper.wp execOp
 simp only [ho]
 simp [go_sem,mS hz]
 exact h _ _ (hS.new c t) (St.cA _ _) (Nat.le_refl _)
theorem wW{t:TypeId}(ho:o.op=.alloc t){v:Value}(hz:zeroOf P t=some v)(h1:v.oneCell'=true)(hS:St w0 hs os ps W)
 (h:∀ k W',St w0 (⟨k,#[v],t⟩::hs) os ps W'→Below W.heap.size W W'→W.heap.size≤k→K (a.put o.dst (.pointer (some ⟨k,0,none⟩))) W'):o.wp P a W K Q:=by
 unfold Oper.wp execOp
 simp only [ho]
 simp only [go_sem,Instr.alloc,newVar,newRow,Sem.run_bind,mS hz,Result.andThen_ok]
 cases v<;>first|exact h _ _ (hS.new _ t) (St.cA _ _) (Nat.le_refl _)|exact absurd h1 (by simp [Value.oneCell'])
theorem eQ{ty:TypeId}{x:Operand}(ho:o.op=.load ty x){k:Nat}(hx:a.eval x=.pointer (some ⟨k,0,none⟩))(hS:St w0 hs os ps W){c:Array Value}{t:TypeId}(hm:(⟨k,c,t⟩:Ch)∈hs)
 (hr:rowOf P ty=some true) (hs':aT P ty=some c.size) (h:K (a.put o.dst (.agg c)) W):o.wp P a W K Q:=by
 have hl:=kb (P:=P) (off:=0) (n:=c.size) (hS.at_ hm) hr hs' ab
 unfold Oper.wp execOp
 simp only [ho,hx,Instr.loadAt,Instr.sureAddr,Sem.run_bind,Sem.run_pure,Result.andThen_ok,hl]
 have he:c.extract 0 (0+c.size)=c:=ai
 rw [he]
 exact h
theorem eH{ty:TypeId}{x:Operand}(ho:o.op=.load ty x){k off:Nat}(hx:a.eval x=.pointer (some ⟨k,off,none⟩))(hS:St w0 hs os ps W){c:Array Value}{t:TypeId}(hm:(⟨k,c,t⟩:Ch)∈hs)
 (hr:rowOf P ty=some true) {n:Nat} (hs':aT P ty=some n) (hlt:off+n≤c.size) {cs:Array Value} (hcs:c.extract off (off+n)=cs) (h:K (a.put o.dst (.agg cs)) W):o.wp P a W K Q:=by
 subst hcs
 have hl:=kb (P:=P) (hS.at_ hm) hr hs' hlt
 unfold Oper.wp execOp
 simp only [ho,hx,Instr.loadAt,Instr.sureAddr,Sem.run_bind,Sem.run_pure,Result.andThen_ok,hl]
 exact h
theorem eG{ty:TypeId}{x:Operand}(ho:o.op=.load ty x){k off:Nat}(hx:a.eval x=.pointer (some ⟨k,off,none⟩))(hS:St w0 hs os ps W){c:Array Value}{t:TypeId}(hm:(⟨k,c,t⟩:Ch)∈hs)
 (hr:rowOf P ty=some false) {v:Value} (hv:mm c.toList off=some v) (h:K (a.put o.dst v) W):o.wp P a W K Q:=by
 have hl:=nO (P:=P) (hS.at_ hm) hr (by rw [← Array.getElem?_toList,← dH];exact hv)
 unfold Oper.wp execOp
 simp only [ho,hx,Instr.loadAt,Instr.sureAddr,Sem.run_bind,Sem.run_pure,Result.andThen_ok,hl]
 exact h
theorem cx{ty:TypeId}{x:Operand}(ho:o.op=.load ty x){ad:Addr}(hx:a.eval x=.pointer (some ad))(hr:rowOf P ty=some false){v:Value}(hv:W.cell? ad=some v)(h:K (a.put o.dst v) W):o.wp P a W K Q:=by
 have hl:=te (P:=P) hr hv
 unfold Oper.wp execOp
 simp only [ho,hx,Instr.loadAt,Instr.sureAddr,Sem.run_bind,Sem.run_pure,Result.andThen_ok,hl]
 exact h
theorem ko{ty:TypeId}{x y:Operand}(ho:o.op=.store ty x y){k off:Nat}(hx:a.eval x=.pointer (some ⟨k,off,none⟩)){cs:Array Value}(hy:a.eval y=.agg cs)(hS:St w0 hs os ps W){c:Array Value}{t:TypeId}(hu:mj k c t (cO c off cs) hs hs')
 (hsz:aT P ty=some cs.size) (hc:off+cs.size≤c.size) (h1:cs.all (·.oneCell')=true) (h:∀ W',St w0 hs' os ps W'→K (a.put o.dst undef) W'):o.wp P a W K Q:=by
 have hl:=tg (P:=P) (hS.at_ hu.mem) hsz hc h1
 unfold Oper.wp execOp
 simp only [ho,hx,hy,Instr.storeAt,Instr.sureAddr,Sem.run_bind,Sem.run_pure,Result.andThen_ok,hl]
 exact h _ (hS.put hu)
theorem km{ty:TypeId}{x y:Operand}(ho:o.op=.store ty x y){k off:Nat}(hx:a.eval x=.pointer (some ⟨k,off,none⟩)){v:Value}(hy:a.eval y=v)(hS:St w0 hs os ps W){c c':Array Value}{t:TypeId}(hu:mj k c t c' hs hs')
 (hc':(Ib c.toList off v).toArray=c') (hsz:aT P ty=some 1) (hc:off<c.size) (h1:v.oneCell'=true) (h:∀ W',St w0 hs' os ps W'→K (a.put o.dst undef) W'):o.wp P a W K Q:=by
 have hc'':c.setIfInBounds off v=c':=by rw [← hc',wG,← Array.toList_setIfInBounds]
 subst hc''
 have hl:=tf (P:=P) (hS.at_ hu.mem) hsz hc h1
 unfold Oper.wp execOp
 simp only [ho,hx,hy,Instr.storeAt,Instr.sureAddr,Sem.run_bind,Sem.run_pure,Result.andThen_ok,hl]
 exact h _ (hS.put hu)
theorem xW(off i:Nat):∀ (l:List Value)(k:Nat)(c:Array Value),((l.zipIdx k).foldl (fun cs p=>cs.setIfInBounds (off+p.2) p.1) c)[i]?=if off+k≤i∧i<off+k+l.length∧i<c.size then l[i-(off+k)]? else c[i]?
 | [],k,c=>by simp;intro h1 h2;omega
 | v::l,k,c=>by
  simp only [List.zipIdx_cons,List.foldl_cons]
  rw [xW off i l (k+1)]
  simp only [Array.size_setIfInBounds,List.length_cons]
  by_cases h1:i=off+k
  ·subst h1
   rw [if_neg ab]
   by_cases h2:off+k<c.size
   ·rw [if_pos ⟨ab,ab,h2⟩];simp [h2]
   rw [if_neg ab];simp [h2]
  rw [Array.getElem?_setIfInBounds_ne ab]
  by_cases h2:off+(k+1)≤i∧i<off+(k+1)+l.length∧i<c.size
  ·rw [if_pos h2,if_pos ⟨ab,ab,h2.2.2⟩,show i-(off+k)=(i-(off+(k+1)))+1 by omega,List.getElem?_cons_succ]
  rw [if_neg h2,if_neg ab]
theorem xX(off:Nat)(c cs:Array Value)(h:off+cs.size≤c.size):(cs.zipIdx.foldl (fun a p=>a.setIfInBounds (off+p.2) p.1) c)=cO c off cs:=by
 rw [← Array.foldl_toList,Array.toList_zipIdx]
 apply Array.ext_getElem?
 intro i
 rw [xW]
 unfold cO
 simp only [Nat.add_zero,Array.length_toList,Array.getElem?_toList,List.getElem?_toArray,List.getElem?_append,List.length_append,List.length_take]
 by_cases h1:i<off
 ·rw [if_neg ab,if_pos ab,if_pos ab]
  simp [h1]
 by_cases h2:i<off+cs.size
 ·rw [if_pos ⟨ab,h2,ab⟩,if_pos ab,if_neg ab,show i-min off c.size=i-off by omega]
 rw [if_neg ab,if_neg ab,List.getElem?_drop,show off+cs.size+(i-(min off c.size+cs.size))=i by omega,Array.getElem?_toList]
theorem pb{place:Nat→Option (Nat×Nat)}{c:Array Value}{i off:Nat}{v:Value}{rest:List (Nat×Value)}(hp:place i=some (off,v.cells.size))(h:off+v.cells.size≤c.size) :
 Instr.fill place c ((i,v)::rest)=Instr.fill place (cO c off v.cells) rest:=by
 simp only [Instr.fill,hp]
 rw [if_neg aw,xX _ _ _ h]
def rA(P:Program)(t:TypeId):Option (List (Nat×Nat)):=match P.underlying t with
 | some (.struct fs)=>fs.toList.mapM (fun f=>(P.info? f.type).map fun i=>(f.offset,i.size))
 | _=>none
theorem vq{t:TypeId}{ps:List (Nat×Nat)}{z:Value}{parts:List (Nat×Value)}(hps:rA P t=some ps)(hz:zeroOf P t=some z):P.built t parts=Instr.fill (ps.toArray[·]?) z.cells parts:=by
 unfold rA at hps
 unfold zeroOf at hz
 unfold Program.built
 cases hq:P.info? t with
 | none=>simp [hq]at hz
 | some i =>
  have hz':i.zero=some z:=by simpa [hq]using hz
  cases hu:P.underlying t with
  | none=>simp [hu]at hps
  | some d =>
   rw [hu]at hps
   cases d<;>simp at hps ⊢
   simp [hz',hps]
theorem wp_build{t:TypeId}{parts:Array (Nat×Operand)}(ho:o.op=.build t parts){cs:Array Value}(hf:P.built t (parts.map fun(i,x)=>(i,a.eval x)).toList=some cs)(h:K (a.put o.dst (.agg cs)) W):o.wp P a W K Q :=
 Go.wp_build t parts ho (by rw [hf];rfl) (by rw [hf];exact h)
def pd:List Value→List Value
 | []=>[]
 | v::l=>v.cells.toList++pd l
theorem za{l m:List Value}{off:Nat}(h:off=l.length)(cs:Array Value)(_hm:cs.size≤m.length):cO (l++m).toArray off cs=(l++cs.toList++m.drop cs.size).toArray:=by
 subst h
 unfold cO
 simp
theorem xS{sz:Nat}:∀ (vs:List Value)(k:Nat)(l m:List Value),(∀ v∈vs,v.cells.size=sz)→l.length=k*sz→m.length=vs.length*sz →
 Instr.fill (fun i=>some (i*sz,sz)) (l++m).toArray (vs.zipIdx k |>.map fun p=>(p.2,p.1))=some (l++pd vs).toArray
 | [],k,l,m,_,_,hm=>by
  have:m=[]:=List.eq_nil_of_length_eq_zero (af hm)
  subst this
  simp [Instr.fill,pd]
 | v::vs,k,l,m,h,hl,hm=>by
  have h1:=h v (List.mem_cons_self ..)
  have hm':sz+vs.length*sz=m.length:=by rw [hm,List.length_cons,Nat.succ_mul];omega
  simp only [List.zipIdx_cons,List.map_cons]
  rw [pb (off:=k*sz) (by rw [h1]) aw,za hl.symm _ ab]
  have:=xS vs (k+1) (l++v.cells.toList) (m.drop v.cells.size) (fun u hu=>h u (List.mem_cons_of_mem _ hu)) (by simp [hl,h1,Nat.succ_mul]) aw
  rw [this]
  simp [pd]
theorem vc{t e:TypeId}{n sz:Nat}{parts:Array (Nat×Operand)}(ho:o.op=.buildSlice t n parts)(hu:P.underlying t=some (.slice e))(hsz:aT P e=some sz){z:Value}(hz:zeroOf P e=some z)(vs:List Value)
 (hp:(parts.map fun(i,x)=>(i,a.eval x)).toList=(vs.zipIdx 0).map fun p=>(p.2,p.1)) (hn:vs.length=n) (hv:∀ v∈vs,v.cells.size=sz) (h24:n*sz≤16777216) (h0:0<n*sz) (hS:St w0 hs os ps W)
 (h:∀ k W',St w0 (⟨k,(pd vs).toArray,e⟩::hs) os ps W'→Below W.heap.size W W'→W.heap.size≤k→K (a.put o.dst (.slice (some ⟨k,0,none⟩) n n)) W'):o.wp P a W K Q:=by
 cases hie:P.info? e with
 | none=>simp [aT,hie]at hsz
 | some ie =>
  have hz':ie.zero=some z:=by simpa [zeroOf,hie]using hz
  have hs':ie.size=sz:=by simpa [aT,hie]using hsz
  refine Go.wp_buildSlice t e n parts ho (pd vs).toArray ie z hu hie hz' (by rw [hs'];omega) (by rw [hs'];omega) ?_ (h _ _ (hS.new _ e) (St.cA _ _) (Nat.le_refl _))
  rw [hp,hs']
  have:=xS (sz:=sz) vs 0 [] ((Array.range (n*sz)).map (z.cells[· % z.cells.size]!)).toList hv ai (by simp [hn])
  simpa only [List.nil_append,Array.toArray_toList]using this
theorem wp_move{x:Operand}{v:Value}(ho:o.op=.move x)(hx:a.eval x=v)(h:K (a.put o.dst v) W):o.wp P a W K Q:=by
 unfold Oper.wp execOp
 simp only [ho,hx,Sem.run_pure]
 exact h
theorem wp_assign{x:Operand}{v:Value}(ho:o.op=.assign x)(hx:a.eval x=v)(h:K (a.put o.dst v) W):o.wp P a W K Q:=by
 unfold Oper.wp execOp
 simp only [ho,hx,Sem.run_pure]
 exact h
theorem IK{x:Operand}{ad:Addr}(ho:o.op=.nilCheck x)(hx:a.eval x=.pointer (some ad))(h:K (a.put o.dst (.pointer (some ad))) W):o.wp P a W K Q:=by
 unfold Oper.wp execOp
 simp only [ho,hx,Sem.run_pure]
 exact h
def js(P:Program)(t:TypeId)(f:Nat):Option Nat:=match P.underlying t with
 | some (.struct fs)=>match fs[f]? with
  | some fd=>match aT P fd.type with
   | some (_+1)=>some fd.offset
   | _=>none
  | none=>none
 | _=>none
theorem kj{x:Operand}{t:TypeId}{f d k off:Nat}(ho:o.op=.fieldAddr t x f)(hx:a.eval x=.pointer (some ⟨k,off,none⟩))(hd:js P t f=some d)(h:K (a.put o.dst (.pointer (some ⟨k,off+d,none⟩))) W):o.wp P a W K Q:=by
 unfold js at hd
 cases hu:P.underlying t with
 | none=>simp [hu]at hd
 | some ds =>
  rw [hu]at hd
  cases ds<;>simp at hd
  rename_i fs
  cases hf:fs[f]? with
  | none=>simp [hf]at hd
  | some fd =>
   simp only [hf]at hd
   cases hz:aT P fd.type with
   | none=>simp [hz]at hd
   | some n =>
    rw [hz]at hd
    cases n with
    | zero=>simp at hd
    | succ n =>
     obtain rfl:fd.offset=d:=af hd
     unfold Oper.wp execOp
     simp only [ho,hx,Instr.fieldAt,Instr.sureAddr,Sem.run_bind,run_underlying hu,Result.andThen_ok,hf,Sem.run_pure,fieldPlace,cv hz]
     simp only [Nat.add_one_ne_zero,if_false,Sem.run_pure,Result.andThen_ok,cJ]
     exact h
theorem iM{f:Operand}{args:Array Operand}{ats:Array TypeId}{g:FuncId}{vs cap:Array Value}(ho:o.op=.call { callee:=.value f,args,argTypes:=ats }) (hf:a.eval f=.func (.func g) #[] cap) (hargs:args.map a.eval++cap=vs)
 (hc:(callFunc g vs).run P W=.ok (.enter g vs) W) {R:Value→World→Prop} (h:Calls P g vs W fun e W'=>∃ v,e=.returned v∧R v W') (hk:∀ v W',R v W'→K (a.put o.dst v) W'):o.wp P a W K Q:=by
 subst hargs
 unfold Oper.wp execOp
 simp only [ho,resolve,Deferred.ofValue,hf,invoke,Sem.run_bind,Sem.run_pure,Result.andThen_ok,Array.empty_append,hc,Oper.upon]
 refine h.mono fun e W' ⟨v,he,hR⟩=>?_
 subst he
 exact hk v W' hR
def gO(P:Program)(t:TypeId):Option (Nat×TypeId):=match P.underlying t with
 | some (.array n e)=>some (n,e)
 | _=>none
theorem kE{t e:TypeId}{n:Nat}(h:gO P t=some (n,e)):P.underlying t=some (.array n e):=by
 unfold gO at h
 split at h
 ·rename_i hu
  simp only [Option.some.injEq,Prod.mk.injEq]at h
  obtain⟨rfl,rfl⟩:=h
  exact hu
 cases h
theorem jK{x ix:Operand}{t e:TypeId}{len n kk off q:Nat}{k:IntKind}{i:Int}(ho:o.op=.indexAddr t x ix)(hx:a.eval x=.pointer (some ⟨kk,off,none⟩))(hi:a.eval ix=.int k i)(hu:gO P t=some (len,e))(h0:0≤i)(h1:i<len)
 (hs:aT P e=some n) (hq:off+i.toNat*n=q) (h:K (a.put o.dst (.pointer (some ⟨kk,q,none⟩))) W):o.wp P a W K Q:=by
 subst hq
 unfold Oper.wp execOp
 simp only [ho,hx,hi,Instr.indexAt,Instr.sureAddr,asIntOf,Sem.run_bind,Sem.run_pure,Result.andThen_ok,run_underlying (kE hu),if_pos (And.intro h0 h1),cv hs,cJ]
 exact h
theorem fj{x ix:Operand}{t e:TypeId}{n len cap:Nat}{ad ad':Addr}{k:IntKind}{i:Int}(ho:o.op=.indexAddr t x ix)(hx:a.eval x=.slice (some ad) len cap)(hi:a.eval ix=.int k i)(hu:P.underlying t=some (.slice e))(h0:0≤i)(h1:i<len)
 (hs:aT P e=some n) (hq:ad.add (i.toNat*n)=ad') (h:K (a.put o.dst (.pointer (some ad'))) W):o.wp P a W K Q:=by
 subst hq
 unfold Oper.wp execOp
 simp only [ho,hx,hi,Instr.indexAt,asIntOf,Sem.run_bind,Sem.run_pure,Result.andThen_ok,run_underlying hu,if_pos (And.intro h0 h1),cv hs]
 exact h
theorem w1{x ix:Operand}{t e:TypeId}{len n:Nat}{c cs:Array Value}{k:IntKind}{i:Int}(ho:o.op=.index t x ix)(hx:a.eval x=.agg c)(hi:a.eval ix=.int k i)(hu:gO P t=some (len,e))(h0:0≤i)(h1:i<len)
 (hr:rowOf P e=some true) (hs:aT P e=some n) (hcs:c.extract (i.toNat*n) (i.toNat*n+n)=cs) (h:K (a.put o.dst (.agg cs)) W):o.wp P a W K Q:=by
 unfold Oper.wp execOp
 simp only [ho,hx,hi,Instr.index,asIntOf,Sem.run_bind,Sem.run_pure,Result.andThen_ok,run_underlying (kE hu),if_pos (And.intro h0 h1),cv hs,part,c9 hr,if_true,hcs]
 exact h
theorem og{x ix:Operand}{t e:TypeId}{len:Nat}{c:Array Value}{k:IntKind}{i:Int}{v:Value}(ho:o.op=.index t x ix)(hx:a.eval x=.agg c)(hi:a.eval ix=.int k i)(hu:gO P t=some (len,e))(h0:0≤i)(h1:i<len)
 (hr:rowOf P e=some false) (hs:aT P e=some 1) (hv:mm c.toList i.toNat=some v) (h:K (a.put o.dst v) W):o.wp P a W K Q:=by
 have hv':c[i.toNat*1]?=some v:=by rw [Nat.mul_one,← Array.getElem?_toList,← dH];exact hv
 unfold Oper.wp execOp
 simp only [ho,hx,hi,Instr.index,asIntOf,Sem.run_bind,Sem.run_pure,Result.andThen_ok,run_underlying (kE hu),if_pos (And.intro h0 h1),cv hs,part,c9 hr,Bool.false_eq_true,if_false,hv']
 exact h
def xU(P:Program)(t:TypeId)(f:Nat):Option (Nat×TypeId):=match P.underlying t with
 | some (.struct fs)=>fs[f]?.map fun d=>(d.offset,d.type)
 | _=>none
theorem xV{t e:TypeId}{f off:Nat}(h:xU P t f=some (off,e)):∃ fs d,P.underlying t=some (.struct fs)∧fs[f]?=some d∧d.offset=off∧d.type=e:=by
 unfold xU at h
 split at h
 ·rename_i fs hu
  cases hf:fs[f]? with
  | none=>rw [hf]at h;cases h
  | some d =>
   rw [hf]at h
   simp at h
   exact⟨fs,d,hu,hf,h.1,h.2⟩
 cases h
theorem wY{x:Operand}{t e:TypeId}{f off:Nat}{c:Array Value}{v:Value}(ho:o.op=.field t x f)(hx:a.eval x=.agg c)(hu:xU P t f=some (off,e))(hr:rowOf P e=some false)(hv:mm c.toList off=some v)(h:K (a.put o.dst v) W):o.wp P a W K Q:=by
 obtain⟨fs,d,h1,h2,rfl,rfl⟩:=xV hu
 have hv':c[d.offset]?=some v:=by rw [← Array.getElem?_toList,← dH];exact hv
 unfold Oper.wp execOp
 simp only [ho,hx,Instr.field,asAgg,Sem.run_bind,Sem.run_pure,Result.andThen_ok,run_underlying h1,h2,part,c9 hr,Bool.false_eq_true,if_false,hv']
 exact h
theorem wZ{x:Operand}{t e:TypeId}{f off n:Nat}{c cs:Array Value}(ho:o.op=.field t x f)(hx:a.eval x=.agg c)(hu:xU P t f=some (off,e))(hr:rowOf P e=some true)(hs:aT P e=some n)(hcs:c.extract off (off+n)=cs)(h:K (a.put o.dst (.agg cs)) W):o.wp P a W K Q:=by
 obtain⟨fs,d,h1,h2,rfl,rfl⟩:=xV hu
 unfold Oper.wp execOp
 simp only [ho,hx,Instr.field,asAgg,Sem.run_bind,Sem.run_pure,Result.andThen_ok,run_underlying h1,h2,part,c9 hr,if_true,cv hs,hcs]
 exact h
def om(op:BinOp)(k:IntKind)(i j:Int):Option Value:=match op with
 | .add=>some (.int k (k.wrap (i+j)))|.sub=>some (.int k (k.wrap (i-j)))|.mul=>some (.int k (k.wrap (i*j)))
 | .eql=>some (.bool (i == j))|.neq=>some (.bool (i != j))|.lss=>some (.bool (decide (i<j)))|.leq=>some (.bool (decide (i≤j)))|.gtr=>some (.bool (decide (i>j)))|.geq=>some (.bool (decide (i≥j)))
 | _=>none
def Cells(W:World)(ad:Addr)(cs:Array Value):Prop:=∀ (j:Nat) (u:Value),cs[j]?=some u→W.cell? (ad.add j)=some u
theorem rU{W:World}{ad:Addr}{cs:Array Value}{ty:TypeId}(hr:rowOf P ty=some true)(hs:aT P ty=some cs.size)(hc:Cells W ad cs):(loadVar ty ad).run P W=.ok (.agg cs) W:=by
 have hl:=run_loadCells_list (P:=P) W ad cs.toList (fun j v hv=>hc j v (af hv))
 simp only [Array.length_toList,Array.toArray_toList]at hl
 simp [loadVar,Sem.run_bind,c9 hr,cv hs,hl]
theorem eF{ty:TypeId}{x:Operand}(ho:o.op=.load ty x){ad:Addr}(hx:a.eval x=.pointer (some ad))(hr:rowOf P ty=some true){cs:Array Value}(hc:Cells W ad cs)(hs:aT P ty=some cs.size)(h:K (a.put o.dst (.agg cs)) W):o.wp P a W K Q:=by
 have hl:=rU (P:=P) hr hs hc
 unfold Oper.wp execOp
 simp only [ho,hx,Instr.loadAt,Instr.sureAddr,Sem.run_bind,Sem.run_pure,Result.andThen_ok,hl]
 exact h
theorem Rd.elem{size n k:Nat}{A:Option Addr}{xs:List Value}(h:Rd W size A n xs)(hk:k<n){cs:Array Value}(hcs:(xs.drop (k*size)).take size=cs.toList):∃ ad,A=some ad∧Cells W (ad.add (k*size)) cs:=by
 obtain⟨ad,e,_,hc⟩:=h.2 ab
 refine⟨ad,e,fun j u hu=>?_⟩
 rw [jO]
 refine hc _ u ?_
 have:cs.toList[j]?=some u:=af hu
 rw [← hcs,List.getElem?_take]at this
 split at this
 ·rw [List.getElem?_drop]at this;exact this
 cases this
theorem hJ{α:Type}{f:α→List Value}{size:Nat}:∀ {l:List α}{k:Nat}{x:α},(∀ y,(f y).length=size)→l[k]?=some x→((l.flatMap f).drop (k*size)).take size=f x
 | [],_,_,_,h=>by simp at h
 | y::l,0,x,hf,h=>by
  obtain rfl:y=x:=af h
  simp only [Nat.zero_mul,List.drop_zero,List.flatMap_cons]
  rw [List.take_append_of_le_length (by rw [hf];omega),List.take_of_length_le (by rw [hf];omega)]
 | y::l,k+1,x,hf,h=>by
  rw [List.flatMap_cons,Nat.succ_mul,Nat.add_comm,← List.drop_drop,List.drop_left' (hf y)]
  exact hJ hf (af h)
theorem aL{α:Type}{f:α→List Value}{size:Nat}(hf:∀ y,(f y).length=size):∀ (l:List α),(l.flatMap f).length=l.length*size
 | []=>ai
 | y::l=>by rw [List.flatMap_cons,List.length_append,hf,aL hf l,List.length_cons,Nat.succ_mul];omega
variable {e0 e1 e2 e3 e4 e5 e6 e7 e8 e9:Ch}
end
end Go.Proofs.YtidekfgkpindbaaGreatDoor
namespace Go.Proofs.YtidekfgkpindbaaGreatDoor.Lax
open Go Go.RowKit
def kB(ops:Array Oper)(n:Nat):Bool :=
 (List.range ops.size).all fun i=>((ops[i]?).map fun o=>o.after.all fun e=>!Region.binds .any e || decide (e.on<i)).getD true &&
  (match cR ops i with|some d=>decide (d<n) && (List.range ops.size).all fun j=>i == j || cR ops j != some d|none=>true)
section
variable {P:Program}{ops:Array Oper}{Q:Exit→Act→World→Prop}
theorem mA{n i:Nat}{o:Oper}{e:Edge}(h:kB ops n=true)(ho:ops[i]?=some o)(he:e∈o.after)(hb:Region.binds .any e=true):e.on<i:=by
 have hi:i<ops.size:=(Array.getElem?_eq_some_iff.1 ho).1
 have:=List.all_eq_true.1 h i (af hi)
 simp only [Bool.and_eq_true,ho,Option.map_some,Option.getD_some]at this
 have h2:=Array.all_eq_true_iff_forall_mem.1 this.1 e he
 simpa [hb]using h2
theorem lD{n i j d:Nat}(h:kB ops n=true)(hi:cR ops i=some d)(hj:cR ops j=some d):i=j∧d<n:=by
 have hlt:∀ k,cR ops k=some d→k<ops.size:=fun k hk=>by
  unfold cR at hk
  cases ho:ops[k]? with
  | none=>rw [ho]at hk;cases hk
  | some o=>exact(Array.getElem?_eq_some_iff.1 ho).1
 have:=List.all_eq_true.1 h i (by simpa using hlt i hi)
 simp only [Bool.and_eq_true,hi]at this
 obtain⟨_,h1,h2⟩:=this
 have h3:=List.all_eq_true.1 h2 j (by simpa using hlt j hj)
 rw [hj]at h3
 simp only [bne_self_eq_false,Bool.or_false,beq_iff_eq]at h3
 exact⟨h3,af h1⟩
end
section
variable {P:Program}{a:Act}{W:World}{K:Act→World→Prop}{Q:Exit→Act→World→Prop}{o:Oper}
end
end Go.Proofs.YtidekfgkpindbaaGreatDoor.Lax
namespace Go.Proofs.YtidekfgkpindbaaGreatDoor
open Go Go.RowKit
inductive CK where
 | b|s|i (k:IntKind)
 deriving DecidableEq
def CK.fit:CK→Value→Bool
 | .b,.bool _=>true
 | .s,.string _=>true
 | .i k,.int k' _=>k == k'
 | _,_=>false
def fits:List CK→List Value→Bool
 | [],[]=>true
 | k::l,v::r=>k.fit v && fits l r
 | _,_=>false
theorem fJ:∀ {l:List CK}{r:List Value},fits l r=true→l.length=r.length
 | [],[],_=>rfl
 | k::l,v::r,h=>by
  simp only [fits,Bool.and_eq_true]at h
  simp [fJ h.2]
 | [],_::_,h=>by simp [fits]at h
 | _::_,[],h=>by simp [fits]at h
theorem iq:∀ {l l':List CK}{r:List Value},fits (l++l') r=true→fits l (r.take l.length)=true∧fits l' (r.drop l.length)=true
 | [],l',r,h=>by simpa [fits]using h
 | k::l,l',[],h=>by simp [fits]at h
 | k::l,l',v::r,h=>by
  simp only [List.cons_append,fits,Bool.and_eq_true]at h
  have:=iq h.2
  simp [fits,h.1,this.1,this.2]
def nt(g:TypeId→Option (List CK)):Nat→List Field→Option (List CK)
 | _,[]=>some []
 | off,f::r=>if f.name = "_" ∨ f.offset≠off then none else
  match g f.type with
  | some l=>(nt g (off+l.length) r).map (l++·)
  | none=>none
def fK(P:Program):Nat→TypeId→Option (List CK)
 | 0,_=>none
 | d+1,t=>match P.underlying t with
  | some .bool=>some [.b]
  | some (.int k)=>some [.i k]
  | some .string=>some [.s]
  | some (.array n e)=>match fK P d e with
   | some l=>if aT P t=some (n*l.length)∧aT P e=some l.length then some (List.replicate n l).flatten else none
   | none=>none
  | some (.struct fs)=>if P.stoodInHeld t=true then none else nt (fun t=>match fK P d t with|some l=>if aT P t=some l.length then some l else none|none=>none) 0 fs.toList
  | _=>none
def shaped(P:Program)(t:TypeId)(v:Value)(cs:List Value):Prop:=match rowOf P t with
 | some true=>v=.agg cs.toArray
 | some false=>cs=[v]
 | none=>False
section
variable {P:Program}(w:World)
def KM(P:Program)(dd:Nat)(t:TypeId)(l:List CK):Prop :=
 ∀ (w:World) (a b:Value) (xs ys:List Value),shaped P t a xs→shaped P t b ys→fits l xs=true→fits l ys=true→∃ r:Bool,(Op.equalIn dd t a b).run P w=.ok r w∧(r=true↔xs=ys)
theorem vW{t:TypeId}{n off:Nat}{cs:List Value}(hs:aT P t=some n){b:Bool}(hr:rowOf P t=some b)(hb:b=false→n=1)(hlen:off+n≤cs.length) :
 ∃ a,(part t cs.toArray off).run P w=.ok a w∧shaped P t a ((cs.drop off).take n):=by
 cases b with
 | true =>
  refine⟨.agg ((cs.drop off).take n).toArray,?_,by simp [shaped,hr]⟩
  simp [part,Sem.run_bind,c9 hr,cv hs]
 | false =>
  obtain rfl:=hb rfl
  have hlt:off<cs.length:=ab
  refine⟨cs[off],?_,?_⟩
  ·simp [part,Sem.run_bind,c9 hr,hlt]
  simp only [shaped,hr]
  rw [List.drop_eq_getElem_cons hlt,List.take_succ_cons,List.take_zero]
theorem nU{xs ys:List Value}{n:Nat}:(xs=ys)↔(xs.take n=ys.take n∧xs.drop n=ys.drop n) :=
 ⟨fun h=>by rw [h];exact⟨rfl,rfl⟩,fun⟨h1,h2⟩=>by rw [← List.take_append_drop n xs,h1,h2,List.take_append_drop]⟩
def Gs:TypeDesc→Bool|.struct _|.array _ _=>true|_=>false
theorem JX{t:TypeId}{k:TypeDesc}(hu:P.underlying t=some k):rowOf P t=some (Gs k):=by
 unfold rowOf
 rw [hu]
 cases k<;>rfl
theorem k7{d:Nat}{t:TypeId}{l:List CK}(h:fK P d t=some l):∃ b,rowOf P t=some b∧(b=false→l.length=1):=by
 cases d with
 | zero=>simp [fK]at h
 | succ d =>
  unfold fK at h
  unfold rowOf
  cases hu:P.underlying t with
  | none=>simp [hu]at h
  | some k =>
   rw [hu]at h
   cases k<;>simp at h ⊢
   all_goals (subst h;rfl)
theorem o8{dd:Nat}{g:TypeId→Option (List CK)}(xs ys:List Value)(hg:∀ t l,g t=some l→KM P dd t l∧aT P t=some l.length∧∃ b,rowOf P t=some b∧(b=false→l.length=1)) :
 ∀ (fs:List Field) (off:Nat) (l:List CK),nt g off fs=some l→fits l (xs.drop off)=true→fits l (ys.drop off)=true →
  ∃ r:Bool,(Op.eqFields dd xs.toArray ys.toArray fs).run P w=.ok r w∧(r=true↔xs.drop off=ys.drop off)
 | [],off,l,h,hx,hy=>by
  obtain rfl:[]=l:=by simpa [nt]using h
  have e1:=List.eq_nil_of_length_eq_zero (fJ hx).symm
  have e2:=List.eq_nil_of_length_eq_zero (fJ hy).symm
  exact⟨true,by simp [Op.eqFields],by simp [e1,e2]⟩
 | f::fs,off,l,h,hx,hy=>by
  unfold nt at h
  split at h
  ·cases h
  rename_i hn
  have hname:f.name ≠ "_" := fun e=>hn (.inl e)
  have hoff:f.offset=off:=Classical.byContradiction fun e=>hn (.inr e)
  cases hgl:g f.type with
  | none=>rw [hgl]at h;cases h
  | some l1 =>
   rw [hgl]at h
   simp only [Option.map_eq_some_iff]at h
   obtain⟨l2,hl2,rfl⟩:=h
   obtain⟨hE,hsz,b,hr,hb⟩:=hg _ _ hgl
   obtain⟨x1,x2⟩:=iq hx
   obtain⟨y1,y2⟩:=iq hy
   rw [List.drop_drop]at x2 y2
   have lx:=fJ x1
   have ly:=fJ y1
   simp only [List.length_take,List.length_drop]at lx ly
   have nx:off+l1.length≤xs.length∨l1.length=0:=ab
   have ny:off+l1.length≤ys.length∨l1.length=0:=ab
   have hxl:off+l1.length≤xs.length∨b=true:=by
    rcases nx with h|h
    ·exact .inl h
    cases b
    ·have:=hb rfl;omega
    exact .inr rfl
   have hyl:off+l1.length≤ys.length∨b=true:=by
    rcases ny with h|h
    ·exact .inl h
    cases b
    ·have:=hb rfl;omega
    exact .inr rfl
   have px:∃ a,(part f.type xs.toArray off).run P w=.ok a w∧shaped P f.type a ((xs.drop off).take l1.length):=by
    rcases hxl with h|rfl
    ·exact vW w hsz hr hb h
    refine⟨.agg ((xs.drop off).take l1.length).toArray,?_,by simp [shaped,hr]⟩
    simp [part,Sem.run_bind,c9 hr,cv hsz]
   have py:∃ a,(part f.type ys.toArray off).run P w=.ok a w∧shaped P f.type a ((ys.drop off).take l1.length):=by
    rcases hyl with h|rfl
    ·exact vW w hsz hr hb h
    refine⟨.agg ((ys.drop off).take l1.length).toArray,?_,by simp [shaped,hr]⟩
    simp [part,Sem.run_bind,c9 hr,cv hsz]
   obtain⟨a,pa,sa⟩:=px
   obtain⟨c,pc,sc⟩:=py
   obtain⟨r1,hr1,hi1⟩:=hE w a c _ _ sa sc x1 y1
   obtain⟨r2,hr2,hi2⟩:=o8 xs ys hg fs (off+l1.length) l2 hl2 x2 y2
   rw [nU (n:=l1.length),List.drop_drop,List.drop_drop,← hi1,← hi2]
   simp only [Op.eqFields,hname,ne_eq,not_false_eq_true,if_true,hoff,Sem.run_bind,pa,pc,hr1,Result.andThen_ok]
   cases r1
   ·exact⟨false,ai,ai⟩
   exact⟨r2,af hr2,ai⟩
theorem qK{dd:Nat}{e:TypeId}{l:List CK}(hE:KM P dd e l)(hsz:aT P e=some l.length){b:Bool}(hr:rowOf P e=some b)(hb:b=false→l.length=1)(xs ys:List Value) :
 ∀ (n k:Nat),fits (List.replicate n l).flatten (xs.drop (k*l.length))=true→fits (List.replicate n l).flatten (ys.drop (k*l.length))=true →
  ∃ r:Bool,(Op.eqItems dd e l.length xs.toArray ys.toArray (List.range' k n)).run P w=.ok r w∧(r=true↔xs.drop (k*l.length)=ys.drop (k*l.length))
 | 0,k,hx,hy=>by
  have e1:=List.eq_nil_of_length_eq_zero (fJ hx).symm
  have e2:=List.eq_nil_of_length_eq_zero (fJ hy).symm
  exact⟨true,by simp [Op.eqItems],by simp [e1,e2]⟩
 | n+1,k,hx,hy=>by
  rw [List.replicate_succ,List.flatten_cons]at hx hy
  obtain⟨x1,x2⟩:=iq hx
  obtain⟨y1,y2⟩:=iq hy
  rw [List.drop_drop,← Nat.succ_mul]at x2 y2
  have lx:=fJ x1
  have ly:=fJ y1
  simp only [List.length_take,List.length_drop]at lx ly
  have pp:∀ zs:List Value,l.length=min l.length (zs.length-k*l.length)→∃ a,(part e zs.toArray (k*l.length)).run P w=.ok a w∧shaped P e a ((zs.drop (k*l.length)).take l.length):=by
   intro zs hz
   cases b with
   | false=>exact vW w hsz hr hb (by have:=hb rfl;omega)
   | true =>
    refine⟨.agg ((zs.drop (k*l.length)).take l.length).toArray,?_,by simp [shaped,hr]⟩
    simp [part,Sem.run_bind,c9 hr,cv hsz]
  obtain⟨a,pa,sa⟩:=pp xs lx
  obtain⟨c,pc,sc⟩:=pp ys ly
  obtain⟨r1,hr1,hi1⟩:=hE w a c _ _ sa sc x1 y1
  obtain⟨r2,hr2,hi2⟩:=qK hE hsz hr hb xs ys n (k+1) x2 y2
  rw [nU (n:=l.length),List.drop_drop,List.drop_drop,← Nat.succ_mul,← hi1,← hi2,List.range'_succ]
  simp only [Op.eqItems,Sem.run_bind,pa,pc,hr1,Result.andThen_ok]
  cases r1
  ·exact⟨false,ai,ai⟩
  exact⟨r2,af hr2,ai⟩
theorem ni(d:Nat):∀ (m:Nat)(t:TypeId)(l:List CK),fK P m t=some l→KM P (d+m) t l
 | 0,_,_,h=>by simp [fK]at h
 | m+1,t,l,h=>by
  intro w x y xs ys hx hy fx fy
  have hh:=h
  unfold fK at h
  cases hu:P.underlying t with
  | none=>simp [hu]at h
  | some k =>
   rw [hu]at h
   unfold shaped at hx hy
   rw [JX hu]at hx hy
   cases k<;>dsimp only [Gs]at h hx hy<;>(try simp only [reduceCtorEq,Option.some.injEq]at h)
   case bool =>
    subst h;subst hx;subst hy
    cases x<;>simp [fits,CK.fit]at fx
    cases y<;>simp [fits,CK.fit]at fy
    rename_i p q
    exact⟨p == q,run_equalIn_bool w (d+m) t p q hu,ai⟩
   case int =>
    subst h;subst hx;subst hy
    cases x<;>simp [fits,CK.fit]at fx
    cases y<;>simp [fits,CK.fit]at fy
    rename_i kk k1 p k2 q
    subst fx;subst fy
    have hrun:=run_equalIn_int (P:=P) w (d+m) t kk kk p q hu
    exact⟨p == q,hrun,ai⟩
   case string =>
    subst h;subst hx;subst hy
    cases x<;>simp [fits,CK.fit]at fx
    cases y<;>simp [fits,CK.fit]at fy
    rename_i p q
    refine⟨p.toList == q.toList,run_equalIn_string w (d+m) t p q hu,?_⟩
    simp only [beq_iff_eq,ByteArray.toList_eq]
    refine⟨fun h=>?_,fun h=>?_⟩
    ·have hd:p.data=q.data:=by rw [← Array.toArray_toList (xs:=p.data),h]
     have hpq:p=q:=by cases p;cases q;simpa using hd
     rw [hpq]
    have hpq:p=q:=af h
    rw [hpq]
   case array n e =>
    cases hk:fK P m e with
    | none=>simp [hk]at h
    | some l1 =>
     rw [hk]at h
     simp only [Option.ite_none_right_eq_some,Option.some.injEq]at h
     obtain⟨⟨h1,h2⟩,rfl⟩:=h
     subst hx;subst hy
     obtain⟨b,hb1,hb2⟩:=k7 hk
     have hpe:∃ i,P.info? e=some i:=by
      unfold aT at h2
      cases hq:P.info? e with
      | none=>simp [hq]at h2
      | some i=>exact⟨i,rfl⟩
     obtain⟨i,hi⟩:=hpe
     have hci:P.cellsOf e=l1.length:=by
      simp only [aT,hi,Option.map_some,Option.some.injEq]at h2
      simp [Program.cellsOf,hi,h2]
     obtain⟨r,hr,hiff⟩:=qK w (ni d m e l1 hk) h2 hb1 hb2 xs ys n 0 (af fx) (af fy)
     refine⟨r,?_,af hiff⟩
     rw [show d+(m+1)=(d+m)+1 from rfl,run_equalIn_array w (d+m) xs.toArray ys.toArray hu hi,hci,List.range_eq_range']
     exact hr
   case struct fs =>
    simp only [Option.ite_none_left_eq_some]at h
    obtain⟨hst,h⟩:=h
    subst hx;subst hy
    have hfs:P.fieldsOf t=fs:=by simp [Program.fieldsOf,hu]
    obtain⟨r,hr,hiff⟩:=o8 w (dd:=d+m) xs ys (fun t' l' ht'=>by
     cases hk:fK P m t' with
     | none=>simp [hk]at ht'
     | some l1 =>
      rw [hk]at ht'
      simp only [Option.ite_none_right_eq_some,Option.some.injEq]at ht'
      obtain⟨hs,rfl⟩:=ht'
      exact⟨ni d m t' l1 hk,hs,k7 hk⟩) fs.toList 0 l h (af fx) (af fy)
    refine⟨r,?_,af hiff⟩
    rw [show d+(m+1)=(d+m)+1 from rfl,run_equalIn_struct w (d+m) t _ _ (by rw [hfs];exact hu) (af hst),hfs]
    exact hr
variable {a:Act}{W:World}{K:Act→World→Prop}{Q:Exit→Act→World→Prop}{o:Oper}
theorem Mk{x y:Operand}{t t':TypeId}{l:List CK}{xs ys:Array Value}{B:Bool}(ho:o.op=.binOp .eql t x y t')(hx:a.eval x=.agg xs)(hy:a.eval y=.agg ys)(hk:fK P 20 t=some l)(hr:rowOf P t=some true)(hg:P.eqGuardType P.depth t=false)
 (fx:fits l xs.toList=true) (fy:fits l ys.toList=true) (hB:B=true↔xs=ys) (h:K (a.put o.dst (.bool B)) W):o.wp P a W K Q:=by
 obtain⟨r,hrun,hiff⟩:=ni (P:=P) 9980 20 t l hk W (.agg xs) (.agg ys) xs.toList ys.toList (by simp [shaped,hr]) (by simp [shaped,hr]) fx fy
 have hrB:r=B:=by
  rw [Bool.eq_iff_iff,hiff,hB]
  exact⟨fun h=>by rw [← Array.toArray_toList (xs:=xs),h],fun h=>by rw [h]⟩
 subst hrB
 unfold Oper.wp execOp
 simp only [ho,hx,hy,Sem.run_bind,run_eqGuard_agg W .eql t x y xs ys hg,Result.andThen_ok,run_eql_struct,hrun]
 exact h
theorem Ml{x y:Operand}{t t':TypeId}{l:List CK}{xs ys:Array Value}{B:Bool}(ho:o.op=.binOp .neq t x y t')(hx:a.eval x=.agg xs)(hy:a.eval y=.agg ys)(hk:fK P 20 t=some l)(hr:rowOf P t=some true)(hg:P.eqGuardType P.depth t=false)
 (fx:fits l xs.toList=true) (fy:fits l ys.toList=true) (hB:B=true↔xs=ys) (h:K (a.put o.dst (.bool (!B))) W):o.wp P a W K Q:=by
 obtain⟨r,hrun,hiff⟩:=ni (P:=P) 9980 20 t l hk W (.agg xs) (.agg ys) xs.toList ys.toList (by simp [shaped,hr]) (by simp [shaped,hr]) fx fy
 have hrB:r=B:=by
  rw [Bool.eq_iff_iff,hiff,hB]
  exact⟨fun h=>by rw [← Array.toArray_toList (xs:=xs),h],fun h=>by rw [h]⟩
 subst hrB
 unfold Oper.wp execOp
 simp only [ho,hx,hy,Sem.run_bind,run_eqGuard_agg W .neq t x y xs ys hg,Result.andThen_ok,run_neq_struct,hrun]
 exact h
end
end Go.Proofs.YtidekfgkpindbaaGreatDoor
namespace Go.Proofs.YtidekfgkpindbaaGreatDoor
open Go Go.RowKit
def JF(i j:Int):Int:=if j<i then j else i
def JE(i j:Int):Int:=if i<j then j else i
section
variable {P:Program}{a:Act}{W:World}{K:Act→World→Prop}{Q:Exit→Act→World→Prop}{o:Oper}
theorem tC{p q:ByteArray}{B:Bool}(hB:B=true↔p=q):(p.toList == q.toList)=B:=by
 rw [Bool.eq_iff_iff,hB,beq_iff_eq]
 constructor
 ·intro h
  simp only [ByteArray.toList_eq]at h
  have hd:p.data=q.data:=by rw [← Array.toArray_toList (xs:=p.data),h]
  cases p;cases q;simpa using hd
 intro h;rw [h]
theorem Eo{fn:Func}{t u:Tmp}(h:fn.results=#[.tmp t,.tmp u]){tmps:Array Value}{v x:Value}(ht:mm tmps.toList t=some v)(hu:mm tmps.toList u=some x):(results fn tmps).run P W=.ok (.tuple #[v,x]) W:=by
 have ht':tmps[t]?.getD undef=v:=by rw [← Array.getElem?_toList,← dH,ht];rfl
 have hu':tmps[u]?.getD undef=x:=by rw [← Array.getElem?_toList,← dH,hu];rfl
 simp [results,h,ht',hu']
end
end Go.Proofs.YtidekfgkpindbaaGreatDoor
namespace Go.Proofs.YtidekfgkpindbaaGreatDoor
open Go Go.RowKit
def bytesOf(P:Program)(t:TypeId):Option Nat:=(P.info? t).map (·.bytes)
section
variable {P:Program}{a:Act}{w0:fB}{W:World}{K:Act→World→Prop}{Q:Exit→Act→World→Prop}{o:Oper}{hs:List Ch}{os:List Ow}{ps:List (World→Prop)}
theorem BI{x:Operand}{i:Nat}{vs:Array Value}{v:Value}(ho:o.op=.extract x i)(hx:a.eval x=.tuple vs)(hv:mm vs.toList i=some v)(h:K (a.put o.dst v) W):o.wp P a W K Q:=by
 have hv':vs[i]?=some v:=by rw [← Array.getElem?_toList,← dH];exact hv
 unfold Oper.wp execOp
 simp [ho,hx,Instr.extract,hv']
 exact h
theorem sS{t e:TypeId}{l c:Operand}{kl kc:IntKind}{L C:Int}{sz by':Nat}{z:Value}(ho:o.op=.makeSlice t l c)(hl:a.eval l=.int kl L)(hc:a.eval c=.int kc C)(hu:P.underlying t=some (.slice e))(hsz:aT P e=some sz)(hz:zeroOf P e=some z)(hb:bytesOf P e=some by')
 (h0:0≤L) (h1:L≤C) (h2:(by':Int)*C≤281474976710656) (h3:C≤9223372036854775807) (hS:St w0 hs os ps W)
 (h:∀ k W',St w0 (⟨k,madeCells z.cells (C.toNat*sz),e⟩::hs) os ps W'→Below W.heap.size W W'→W.heap.size≤k→K (a.put o.dst (.slice (some ⟨k,0,none⟩) L.toNat C.toNat)) W'):o.wp P a W K Q:=by
 cases hie:P.info? e with
 | none=>simp [aT,hie]at hsz
 | some i =>
  have hz':i.zero=some z:=by simpa [zeroOf,hie]using hz
  have hs':i.size=sz:=by simpa [aT,hie]using hsz
  have hb':i.bytes=by':=by simpa [bytesOf,hie]using hb
  have hrun:=run_make (P:=P) W t e i z hu hie hz' kl kc L C h0 h1 (by rw [hb'];exact h2) h3
  rw [hs']at hrun
  unfold Oper.wp execOp
  simp only [ho,hl,hc,Sem.run_bind,hrun,Result.andThen_ok]
  exact h _ _ (hS.new _ e) (St.cA _ _) (Nat.le_refl _)
end
end Go.Proofs.YtidekfgkpindbaaGreatDoor
namespace Go.Proofs.YtidekfgkpindbaaGreatDoor
open Go Go.RowKit
section
variable {P:Program}{a:Act}{W:World}{K:Act→World→Prop}{Q:Exit→Act→World→Prop}{o:Oper}
theorem w3{x y z:Operand}(ho:o.op=.pick x y z)(hx:a.eval x=.bool true){v:Value}(hy:a.eval y=v)(h:K (a.put o.dst v) W):o.wp P a W K Q:=by
 unfold Oper.wp execOp
 simp [ho,hx,hy]
 exact h
theorem tm{x y z:Operand}(ho:o.op=.pick x y z)(hx:a.eval x=.bool false){v:Value}(hy:a.eval z=v)(h:K (a.put o.dst v) W):o.wp P a W K Q:=by
 unfold Oper.wp execOp
 simp [ho,hx,hy]
 exact h
end
end Go.Proofs.YtidekfgkpindbaaGreatDoor
namespace Go.Proofs.YtidekfgkpindbaaGreatDoor
open Go Go.RowKit
section
variable {P:Program}{a:Act}{w0:fB}{W:World}{K:Act→World→Prop}{Q:Exit→Act→World→Prop}{o:Oper}{hs hs':List Ch}{os:List Ow}{ps:List (World→Prop)}
theorem Rd.src{size m c:Nat}{A:Option Addr}{news:List Value}{t e:TypeId}(hr:Rd W size A m news)(hm:0<m)(hu:P.underlying t=some (.slice e))(h1:∀ u∈news,u.oneCell'=true):Src P size t (.slice A m c) m news W:=by
 obtain⟨ad,rfl,_,hc⟩:=hr.2 hm
 exact Src.ofSlice W hu ad m c news hr.1 hc h1
end
end Go.Proofs.YtidekfgkpindbaaGreatDoor
namespace Go.Proofs.YtidekfgkpindbaaGreatDoor
open Go Go.RowKit
section
variable {P:Program}{a:Act}{w0:fB}{W:World}{K:Act→World→Prop}{Q:Exit→Act→World→Prop}{o:Oper}{hs hs':List Ch}{os:List Ow}{ps:List (World→Prop)}
theorem Fp{P:Program}{e:TypeId}{z:Value}{sz:Nat}(hz:zeroOf P e=some z)(hsz:aT P e=some sz)(h:z.cells.size=sz)(n:Nat):(Builtin.zeroCells z.cells n).size=n*sz:=by simp [Builtin.zeroCells,h]
theorem je{t tx e:TypeId}{x y:Operand}{size by':Nat}{z:Value}(ho:o.op=.call { callee:=.builtin .append,args:=#[x,y],argTypes:=#[t,tx] }) {A0:Option Addr} {n c:Nat} {olds:List Value} (hx:a.eval x=.slice A0 n c) (hold:(Builtin.firstCells size n (.slice A0 n c)).run P W.drew=.ok olds.toArray W.drew) (holen:olds.length=n*size)
 {yv:Value} {m:Nat} {news:List Value} (hy:a.eval y=yv) (hsrc:Src P size tx yv m news W) (hu:P.underlying t=some (.slice e)) (hsz:aT P e=some size) (hz:zeroOf P e=some z) (hzs:z.cells.size=size) (hb:bytesOf P e=some by')
 (hg:c<n+m) (hby:by'≤1000000) (hfit:(n+m)*by'≤140737488355328) (h63:n+m≤140737488355328) (hS:St w0 hs os ps W)
 (h:∀ k cap Z W',W.heap.size≤k→St w0 (⟨k,(olds++news++Z).toArray,e⟩::hs) os ps W'→(olds++news++Z).length=cap*size→n+m≤cap→cap≤maxLen→K (a.put o.dst (.slice (some ⟨k,0,none⟩) (n+m) cap)) W'):o.wp P a W K Q:=by
 cases hie:P.info? e with
 | none=>simp [aT,hie]at hsz
 | some i =>
  have hz':i.zero=some z:=by simpa [zeroOf,hie]using hz
  have hs':i.size=size:=by simpa [aT,hie]using hsz
  have hb':i.bytes=by':=by simpa [bytesOf,hie]using hb
  subst hs'
  subst hb'
  have hfit':(n+m+(n+m) / 4+192)*i.bytes≤281474976710656:=by
   have h1:(n+m+(n+m) / 4+192)*i.bytes=(n+m)*i.bytes+(n+m) / 4*i.bytes+192*i.bytes:=by rw [Nat.add_mul,Nat.add_mul]
   have h2:(n+m) / 4*i.bytes*4≤(n+m)*i.bytes:=by
    rw [Nat.mul_right_comm]
    exact Nat.mul_le_mul_right _ (Nat.div_mul_le_self _ _)
   omega
  have hrun:=run_append_grow_src (P:=P) W t tx o.type e i z hu hie hz' A0 n c olds hold yv m news hsrc hg ab (growslice_fits_wide hg hfit')
  have hcap:=grownCap_ge W (n+m) c e
  unfold Oper.wp execOp
  simp only [ho,resolve,invoke,builtin,Sem.run_bind,Sem.run_pure,Result.andThen_ok,List.map_toArray,List.map_cons,List.map_nil,hx,hy,hrun]
  have hZ:=hS.drew.new ((olds++news).toArray++Builtin.zeroCells z.cells (grownCap W (n+m) c e-(n+m))) e
  refine h _ _ (Builtin.zeroCells z.cells (grownCap W (n+m) c e-(n+m))).toList _ (Nat.le_refl _) ?_ ?_ hcap (grownCap_le_maxLen W (n+m) c e (by unfold maxLen;omega))
  ·have e1:(olds++news++(Builtin.zeroCells z.cells (grownCap W (n+m) c e-(n+m))).toList).toArray=(olds++news).toArray++Builtin.zeroCells z.cells (grownCap W (n+m) c e-(n+m)):=by
    apply Array.ext';simp
   rw [e1]
   exact hZ
  have h3:=Fp hz hsz hzs (grownCap W (n+m) c e-(n+m))
  have h4:=hsrc.newsLen
  simp only [List.length_append,Array.length_toList,h3,holen,h4,← Nat.add_mul]
  congr 1
  omega
theorem pQ{t tx e t':TypeId}{x y:Operand}{size:Nat}(ho:o.op=.call { callee:=.builtin .append,args:=#[x,y],argTypes:=#[t,tx] }) {k n c:Nat} (hx:a.eval x=.slice (some ⟨k,0,none⟩) n c)
 {yv:Value} {m:Nat} {news:List Value} (hy:a.eval y=yv) (hsrc:Src P size tx yv m news W) (hu:P.underlying t=some (.slice e)) (hsz:aT P e=some size)
 (hg:n+m≤c) {cs:Array Value} (hS:St w0 hs os ps W) (hup:mj k cs t' (cO cs (n*size) news.toArray) hs hs') (hcs:n*size+m*size≤cs.size)
 (h:∀ W',St w0 hs' os ps W'→K (a.put o.dst (.slice (some ⟨k,0,none⟩) (n+m) c)) W'):o.wp P a W K Q:=by
 cases hie:P.info? e with
 | none=>simp [aT,hie]at hsz
 | some i =>
  have hs':i.size=size:=by simpa [aT,hie]using hsz
  subst hs'
  have hst:=run_storeCells_at (P:=P) k (n*i.size) t' news 0 cs W (hS.at_ hup.mem) (by rw [hsrc.newsLen];omega) hsrc.one
  simp only [Nat.add_zero]at hst
  have hrun:(Builtin.append_ #[t,tx] o.type #[.slice (some ⟨k,0,none⟩) n c,yv]).run P W=.ok (.slice (some ⟨k,0,none⟩) (n+m) c) (W.setRow k (cO cs (n*i.size) news.toArray)):=by
   rcases hsrc.kind with ⟨e',hk⟩|hk<;>simp [Builtin.append_,run_underlying hu,sizeOf,typeInfo,hie,run_underlying hk,hsrc.len,hg,hsrc.cells,Addr.add_lit,hst,cO]
  unfold Oper.wp execOp
  simp only [ho,resolve,invoke,builtin,Sem.run_bind,Sem.run_pure,Result.andThen_ok,List.map_toArray,List.map_cons,List.map_nil,hx,hy,hrun]
  exact h _ (hS.put hup)
theorem zo{t tx e:TypeId}{x y:Operand}{size:Nat}(ho:o.op=.call { callee:=.builtin .append,args:=#[x,y],argTypes:=#[t,tx] }) {ad:Addr} {n c:Nat} (hx:a.eval x=.slice (some ad) n c) (hc:n≤c)
 {yv:Value} {news:List Value} (hy:a.eval y=yv) (hsrc:Src P size tx yv 0 news W) (hu:P.underlying t=some (.slice e)) (hsz:aT P e=some size)
 (h:K (a.put o.dst (.slice (some ad) n c)) W):o.wp P a W K Q:=by
 cases hie:P.info? e with
 | none=>simp [aT,hie]at hsz
 | some i =>
  have hs':i.size=size:=by simpa [aT,hie]using hsz
  subst hs'
  have hn:news=[]:=List.eq_nil_of_length_eq_zero (by simpa using hsrc.newsLen)
  subst hn
  have hrun:(Builtin.append_ #[t,tx] o.type #[.slice (some ad) n c,yv]).run P W=.ok (.slice (some ad) n c) W:=by
   rcases hsrc.kind with ⟨e',hk⟩|hk<;>simp [Builtin.append_,run_underlying hu,sizeOf,typeInfo,hie,run_underlying hk,hsrc.len,hsrc.cells,hc,storeCells]
  unfold Oper.wp execOp
  simp only [ho,resolve,invoke,builtin,Sem.run_bind,Sem.run_pure,Result.andThen_ok,List.map_toArray,List.map_cons,List.map_nil,hx,hy,hrun]
  exact h
theorem sQ{t tx e:TypeId}{x y:Operand}{size:Nat}(ho:o.op=.call { callee:=.builtin .append,args:=#[x,y],argTypes:=#[t,tx] }) (hx:a.eval x=.slice none 0 0)
 {yv:Value} {news:List Value} (hy:a.eval y=yv) (hsrc:Src P size tx yv 0 news W) (hu:P.underlying t=some (.slice e)) (hsz:aT P e=some size)
 (h:K (a.put o.dst (.slice none 0 0)) W):o.wp P a W K Q:=by
 cases hie:P.info? e with
 | none=>simp [aT,hie]at hsz
 | some i =>
  have hs':i.size=size:=by simpa [aT,hie]using hsz
  subst hs'
  have hrun:(Builtin.append_ #[t,tx] o.type #[.slice none 0 0,yv]).run P W=.ok (.slice none 0 0) W:=by
   rcases hsrc.kind with ⟨e',hk⟩|hk<;>simp [Builtin.append_,run_underlying hu,sizeOf,typeInfo,hie,run_underlying hk,hsrc.len,hsrc.cells]
  unfold Oper.wp execOp
  simp only [ho,resolve,invoke,builtin,Sem.run_bind,Sem.run_pure,Result.andThen_ok,List.map_toArray,List.map_cons,List.map_nil,hx,hy,hrun]
  exact h
end
def iP(sz:Nat)(h:Value)(b:Nat)(t:TypeId)(cells tl:List Value)(W:World):Prop :=
 (h=.slice none 0 0∧cells=[])∨∃ len cap,h=.slice (some ⟨b,0,none⟩) len cap∧cells.length=len*sz∧(cells++tl).length=cap*sz∧len≤cap∧cap≤maxLen∧W.heap[b]?=some (.cells (cells++tl).toArray t (0,0))
def iA:Value→List Nat
 | .slice (some a) _ _=>[a.block]
 | _=>[]
theorem St.PO{w0:fB}{W W':World}{e:Ch}{hs:List Ch}{os:List Ow}{ps:List (World→Prop)}(h:St w0 (e::hs) os ps W)(ho:W'.os=W.os)(ht:W'.tape=W.tape)(hu:W'.output=W.output)(hs':bp [e.id] W W'){k:Nat}{c:Array Value}{t:TypeId}(hk:W'.heap[k]?=some (.cells c t (0,0)))(hn:k=e.id∨W.heap.size≤k):St w0 (⟨k,c,t⟩::hs) os ps W':=by
 have hnd:e.id∉bk hs os∧(bk hs os).Nodup:=List.nodup_cons.1 (show(e.id::bk hs os).Nodup from h.nodup)
 have he:=h.dS e (List.mem_cons_self ..)
 have hlt:∀ b∈bk hs os,b<W.heap.size:=fun b hb=>(h.gL (List.mem_cons_of_mem _ hb:b∈e.id::bk hs os)).2
 have hkn:k∉bk hs os:=fun hm=>by
  rcases hn with rfl|hn
  ·exact hnd.1 hm
  ·have:=hlt _ hm;omega
 refine⟨⟨ho.trans h.b5.os,ht.trans h.b5.tape,hu.trans h.b5.output,Nat.le_trans h.b5.size hs'.size,fun b h1 h2=>(hs'.block b (Nat.lt_of_lt_of_le h1 h.b5.size) ?_).trans (h.b5.block b h1 h2)⟩,fun x hx=>?_,fun x hx=>?_,?_,fun p hp W2 h2=>h.pers p hp W2 ?_⟩
 ·intro hm
  obtain rfl:=List.mem_singleton.1 hm
  rcases he.1 with h3|h3
  ·omega
  exact h2 h3
 ·rcases List.mem_cons.1 hx with rfl|hx
  ·refine⟨?_,hk⟩
   rcases hn with rfl|hn
   ·exact he.1
   exact .inl (Nat.le_trans h.b5.size hn)
  have hx2:=h.dS x (List.mem_cons_of_mem _ hx)
  refine⟨hx2.1,(hs'.block x.id (Array.getElem?_eq_some_iff.1 hx2.2).1 ?_).trans hx2.2⟩
  intro hm
  have:=List.mem_singleton.1 hm
  exact hnd.1 (this▸List.mem_append.2 (.inl (List.mem_map.2 ⟨x,hx,rfl⟩)))
 ·have hx2:=h.own x hx
  refine⟨hx2.1,(hs'.block x.id (Array.getElem?_eq_some_iff.1 hx2.2).1 ?_).trans hx2.2⟩
  intro hm
  have:=List.mem_singleton.1 hm
  exact hnd.1 (this▸List.mem_append.2 (.inr (List.mem_flatMap.2 ⟨x,hx,by simp [Ow.dS]⟩)))
 ·show(k::bk hs os).Nodup
  exact List.nodup_cons.2 ⟨hkn,hnd.2⟩
 refine⟨Nat.le_trans hs'.size h2.size,fun b hb hm=>(h2.block b (Nat.lt_of_lt_of_le hb hs'.size) ?_).trans (hs'.block b hb ?_)⟩
 ·intro hm2
  have hm2':b∈k::bk hs os:=hm2
  rcases List.mem_cons.1 hm2' with rfl|hm2'
  ·rcases hn with rfl|hn
   ·exact hm (List.mem_cons_self ..)
   omega
  exact hm (List.mem_cons_of_mem _ hm2')
 intro hm2
 obtain rfl:=List.mem_singleton.1 hm2
 exact hm (List.mem_cons_self ..)
theorem St.O7{w0:fB}{W W':World}{e:Ch}{hs:List Ch}{os:List Ow}{ps:List (World→Prop)}(h:St w0 (e::hs) os ps W)(ho:W'.os=W.os)(ht:W'.tape=W.tape)(hu:W'.output=W.output)(hs':bp [e.id] W W'):St w0 hs os ps W':=by
 have hnd:e.id∉bk hs os∧(bk hs os).Nodup:=List.nodup_cons.1 (show(e.id::bk hs os).Nodup from h.nodup)
 have he:=h.dS e (List.mem_cons_self ..)
 refine⟨⟨ho.trans h.b5.os,ht.trans h.b5.tape,hu.trans h.b5.output,Nat.le_trans h.b5.size hs'.size,fun b h1 h2=>(hs'.block b (Nat.lt_of_lt_of_le h1 h.b5.size) ?_).trans (h.b5.block b h1 h2)⟩,fun x hx=>?_,fun x hx=>?_,hnd.2,fun p hp W2 h2=>h.pers p hp W2 ?_⟩
 ·intro hm
  obtain rfl:=List.mem_singleton.1 hm
  rcases he.1 with h3|h3
  ·omega
  exact h2 h3
 ·have hx2:=h.dS x (List.mem_cons_of_mem _ hx)
  refine⟨hx2.1,(hs'.block x.id (Array.getElem?_eq_some_iff.1 hx2.2).1 ?_).trans hx2.2⟩
  intro hm
  have:=List.mem_singleton.1 hm
  exact hnd.1 (this▸List.mem_append.2 (.inl (List.mem_map.2 ⟨x,hx,rfl⟩)))
 ·have hx2:=h.own x hx
  refine⟨hx2.1,(hs'.block x.id (Array.getElem?_eq_some_iff.1 hx2.2).1 ?_).trans hx2.2⟩
  intro hm
  have:=List.mem_singleton.1 hm
  exact hnd.1 (this▸List.mem_append.2 (.inr (List.mem_flatMap.2 ⟨x,hx,by simp [Ow.dS]⟩)))
 refine⟨Nat.le_trans hs'.size h2.size,fun b hb hm=>(h2.block b (Nat.lt_of_lt_of_le hb hs'.size) fun hm2=>hm (List.mem_cons_of_mem _ hm2)).trans (hs'.block b hb ?_)⟩
 intro hm2
 obtain rfl:=List.mem_singleton.1 hm2
 exact hm (List.mem_cons_self ..)
end Go.Proofs.YtidekfgkpindbaaGreatDoor
namespace Go.Proofs.YtidekfgkpindbaaGreatDoor
open Go Go.RowKit
structure Qe where
 key:Value
 cs:List Value
 born:Nat
def Qe.cells(e:Qe):List Value:=e.key::(e.cs++[.int .i64 (e.born:Int)])
def Qe.entry(ag:Bool)(e:Qe):MapEntry:=⟨e.key,tP ag e.cs,e.born⟩
def bV(nx:Nat)(l:List Qe):List Value:=.int .i64 (nx:Int)::l.flatMap Qe.cells
theorem AM{k nx:Nat}{l:List Qe}(hl:∀ e∈l,e.cs.length=k):(l.flatMap Qe.cells).length=l.length*(k+2):=by
 induction l with
 | nil=>simp
 | cons e l ih =>
  rw [List.flatMap_cons,List.length_append,ih fun x hx=>hl x (List.mem_cons_of_mem _ hx),List.length_cons,Nat.add_mul]
  simp only [Qe.cells,List.length_cons,List.length_append,List.length_nil,hl e (List.mem_cons_self ..)]
  omega
theorem yi{k:Nat}{ag:Bool}:∀ {l:List Qe},(∀ e∈l,e.cs.length=k)→yh k ag l.length (l.flatMap Qe.cells)=l.map (Qe.entry ag)
 | [],_=>rfl
 | e::l,hl=>by
  have he:=hl e (List.mem_cons_self ..)
  have ih:=yi (k:=k) (ag:=ag) (l:=l) fun x hx=>hl x (List.mem_cons_of_mem _ hx)
  have hc:e.cells.length=k+2:=by simp [Qe.cells,he]
  rw [List.length_cons]
  unfold yh
  rw [List.flatMap_cons,List.map_cons]
  have h1:(e.cells++l.flatMap Qe.cells).drop (k+2)=l.flatMap Qe.cells:=List.drop_left' hc
  have h2:((e.cells++l.flatMap Qe.cells).drop 1).take k=e.cs:=by
   show((e.cs++[Value.int .i64 (e.born:Int)])++l.flatMap Qe.cells).take k=e.cs
   rw [List.append_assoc]
   exact List.take_left' he
  have h3:(e.cells++l.flatMap Qe.cells).getD (k+1) undef=.int .i64 (e.born:Int):=by
   rw [List.getD_eq_getElem?_getD,List.getElem?_append_left ab]
   show((e.key::(e.cs++[Value.int .i64 (e.born:Int)]):List Value)[k+1]?).getD undef=_
   rw [List.getElem?_cons_succ,List.getElem?_append_right ab,he]
   simp
  rw [h1,h2,h3,ih]
  refine congr (congrArg List.cons ?_) rfl
  simp [Qe.entry,Qe.cells,qC]
theorem lS{k nx:Nat}{ag:Bool}{l:List Qe}(hl:∀ e∈l,e.cs.length=k):vP k ag (bV nx l).toArray=.map (l.map (Qe.entry ag)).toArray nx:=by
 unfold vP bV
 rw [List.length_cons,Nat.add_sub_cancel,AM (nx:=nx) hl,Nat.mul_div_cancel _ ab]
 simp only [List.drop_succ_cons,List.drop_zero,List.headD_cons,qC,Int.toNat_natCast]
 rw [yi hl]
theorem kP{l:List Qe}(h:(l.map Qe.key).Nodup){i j:Nat}{a b:Qe}(ha:l[i]?=some a)(hb:l[j]?=some b)(hk:a.key=b.key):i=j:=by
 have h1:(l.map Qe.key)[i]?=some a.key:=by simp [ha]
 have h2:(l.map Qe.key)[j]?=some b.key:=by simp [hb]
 exact(List.getElem?_inj (List.getElem?_eq_some_iff.1 h1).1 h).1 (h1.trans ((congrArg some hk).trans h2.symm))
structure kq(P:Program)(kt:TypeId)(G:Value→Prop):Prop where
 check:∀ (w:World) (em:Bool) {v:Value},G v→(Instr.checkKey em 10000 kt v).run P w=.ok () w
 find:∀ (w:World) {x:Value},G x→∀ es:List MapEntry,(∀ e∈es,G e.key)→((Instr.findKey kt x es).run P w=.ok none w∧∀ e∈es,e.key≠x)∨∃ j e,(Instr.findKey kt x es).run P w=.ok (some (j,e.val)) w∧es[j]?=some e∧e.key=x
 stays:∀ (w:World) {v:Value},G v→(Instr.keyThatStays v v).run P w=.ok v w
theorem kq.plain{P:Program}{kt:TypeId}{d:TypeDesc}(hd:P.underlying kt=some d):kq P kt (MapKept.IsKey d):=by
 refine⟨fun w em v h=>MapKept.run_checkKey hd h em 9999,fun w x hx es hes=>?_,fun w v h=>MapKept.run_keyThatStays h⟩
 rcases MapKept.findNow_spec hx es 0 hes with ⟨h1,h2⟩|⟨j,e,h1,h2,h3⟩
 ·exact .inl ⟨MapKept.run_findKey hd h1,h2⟩
 exact .inr ⟨j,e,by simpa using MapKept.run_findKey hd h1,h2,h3⟩
structure xe(P:Program)(kt:TypeId)(k:Nat)(c:List Value)(x:Value)(nx:Nat)(l:List Qe):Prop where
 cells:c=bV nx l
 len:∀ e∈l,e.cs.length=k
 nod:(l.map Qe.key).Nodup
 law:∃ G,kq P kt G∧(∀ e∈l,G e.key)∧G x
section
variable {P:Program}{W:World}{t kt e:TypeId}{ag:Bool}{b nx:Nat}{l:List Qe}{kv:Value}{G:Value→Prop}
theorem Jx(hkl:∀ q∈l,G q.key):∀ x∈l.map (Qe.entry ag),G x.key:=fun x hx=>by
 obtain⟨q,hq,rfl⟩:=List.mem_map.1 hx
 exact hkl q hq
theorem Al(K:kq P kt G)(hkl:∀ q∈l,G q.key)(hkv:G kv) :
 ((Instr.findKey kt kv (l.map (Qe.entry ag))).run P W=.ok none W∧∀ q∈l,q.key≠kv)∨∃ (j:Nat) (q:Qe),(Instr.findKey kt kv (l.map (Qe.entry ag))).run P W=.ok (some (j,tP ag q.cs)) W∧l[j]?=some q∧q.key=kv:=by
 rcases K.find W hkv (l.map (Qe.entry ag)) (Jx hkl)with ⟨h1,h2⟩|⟨j,x,h1,h2,h3⟩
 ·exact .inl ⟨h1,fun q hq=>h2 _ (List.mem_map.2 ⟨q,hq,rfl⟩)⟩
 rw [List.getElem?_map,Option.map_eq_some_iff]at h2
 obtain⟨q,hq,rfl⟩:=h2
 exact .inr ⟨j,q,h1,hq,h3⟩
theorem EG{z:Value}{ok:Bool}(hu:P.underlying t=some (.map kt e))(K:kq P kt G)(hz:zeroOf P e=some z)(hkl:∀ q∈l,G q.key)(hkv:G kv)(hb:W.heap[b]?=some (.map (l.map (Qe.entry ag)).toArray nx)) :
 ((∀ q∈l,q.key≠kv)∧(Instr.lookup t (.map (some b)) kv ok).run P W=.ok (if ok then .tuple #[z,.bool false]else z) W) ∨
 ∃ (j:Nat) (q:Qe),l[j]?=some q∧q.key=kv∧(Instr.lookup t (.map (some b)) kv ok).run P W=.ok (if ok then .tuple #[tP ag q.cs,.bool true]else tP ag q.cs) W:=by
 have hc:=fun em=>K.check W em hkv
 rcases Al (W:=W) (ag:=ag) K hkl hkv with ⟨h1,h2⟩|⟨j,q,h1,h2,h3⟩
 ·refine .inl ⟨h2,?_⟩
  cases ok<;>simp [Instr.lookup,run_underlying hu,MapKept.run_getObj_map hb,hc,h1,mS hz,Result.andThen]
 refine .inr ⟨j,q,h2,h3,?_⟩
 cases ok<;>simp [Instr.lookup,run_underlying hu,MapKept.run_getObj_map hb,hc,h1,Result.andThen]
theorem Bs{xs:List Value}(hu:P.underlying t=some (.map kt e))(K:kq P kt G)(hkl:∀ q∈l,G q.key)(hkv:G kv)(hb:W.heap[b]?=some (.map (l.map (Qe.entry ag)).toArray nx)) :
 ((∀ q∈l,q.key≠kv)∧(Instr.mapUpdate t (.map (some b)) kv (tP ag xs)).run P W=.ok () (ChangeMaps.setBlock W b (.map ((l++[(⟨kv,xs,nx⟩:Qe)]).map (Qe.entry ag)).toArray (nx+1)))) ∨
 ∃ (j:Nat) (q:Qe),l[j]?=some q∧q.key=kv∧(Instr.mapUpdate t (.map (some b)) kv (tP ag xs)).run P W=.ok () (ChangeMaps.setBlock W b (.map ((l.set j (⟨kv,xs,q.born⟩:Qe)).map (Qe.entry ag)).toArray nx)):=by
 have hc:=fun em=>K.check W em hkv
 rcases Al (W:=W) (ag:=ag) K hkl hkv with ⟨h1,h2⟩|⟨j,q,h1,h2,h3⟩
 ·refine .inl ⟨h2,?_⟩
  have e1:((l++[(⟨kv,xs,nx⟩:Qe)]).map (Qe.entry ag)).toArray=(l.map (Qe.entry ag)).toArray.push (⟨kv,tP ag xs,nx⟩:MapEntry):=by simp [Qe.entry]
  rw [e1]
  simp [Instr.mapUpdate,run_underlying hu,MapKept.run_getObj_map hb,hc,h1,MapKept.run_setObj_map _ hb,ChangeMaps.setBlock,Result.andThen]
 refine .inr ⟨j,q,h2,h3,?_⟩
 have h4:(l.map (Qe.entry ag)).toArray[j]?=some (q.entry ag):=by simp [h2]
 have h5:(l.map (Qe.entry ag))[j]?=some (q.entry ag):=by simp [h2]
 have hst:=K.stays W hkv
 have e1:=ChangeMaps.modify_eq_set (fun e:MapEntry=>(⟨kv,tP ag xs,e.born⟩:MapEntry)) _ _ _ h5
 have e2:(l.set j (⟨kv,xs,q.born⟩:Qe)).map (Qe.entry ag)=(l.map (Qe.entry ag)).set j (⟨kv,tP ag xs,q.born⟩:MapEntry):=by rw [List.map_set];rfl
 rw [e2]
 simp only [Qe.entry]at e1
 rw [← e1]
 have hk3:(q.entry ag).key=kv:=h3
 simp [Instr.mapUpdate,run_underlying hu,MapKept.run_getObj_map hb,hc,h1,h2,h5,hk3,hst,MapKept.run_setObj_map _ hb,ChangeMaps.setBlock,Result.andThen]
theorem Hr{ty:TypeId}{ats:Array TypeId}(hat:ats[0]?=some t)(hu:P.underlying t=some (.map kt e))(K:kq P kt G)(hkl:∀ q∈l,G q.key)(hkv:G kv)(hb:W.heap[b]?=some (.map (l.map (Qe.entry ag)).toArray nx)) :
 ((∀ q∈l,q.key≠kv)∧(Builtin.delete_ ats ty #[.map (some b),kv]).run P W=.ok (.tuple #[]) (ChangeMaps.setBlock W b (.map (l.map (Qe.entry ag)).toArray nx))) ∨
 ∃ (j:Nat) (q:Qe),l[j]?=some q∧q.key=kv∧(Builtin.delete_ ats ty #[.map (some b),kv]).run P W=.ok (.tuple #[]) (ChangeMaps.setBlock W b (.map ((l.eraseIdx j).map (Qe.entry ag)).toArray nx)):=by
 have hc:=fun em=>K.check W em hkv
 rcases Al (W:=W) (ag:=ag) K hkl hkv with ⟨h1,h2⟩|⟨j,q,h1,h2,h3⟩
 ·refine .inl ⟨h2,?_⟩
  simp [Builtin.delete_,hat,run_underlying hu,MapKept.run_getObj_map hb,hc,h1,MapKept.run_setObj_map _ hb,ChangeMaps.setBlock,Result.andThen]
 refine .inr ⟨j,q,h2,h3,?_⟩
 have e1:(l.eraseIdx j).map (Qe.entry ag)=(l.map (Qe.entry ag)).eraseIdx j:=ChangeMaps.map_eraseIdx ..
 rw [e1]
 have hj:j<(l.map (Qe.entry ag)).length:=by simpa using (List.getElem?_eq_some_iff.1 h2).1
 simp [Builtin.delete_,hat,run_underlying hu,MapKept.run_getObj_map hb,hc,h1,MapKept.run_setObj_map _ hb,ChangeMaps.setBlock,Result.andThen]
end
end Go.Proofs.YtidekfgkpindbaaGreatDoor
namespace Go.Proofs.YtidekfgkpindbaaGreatDoor
open Go Go.RowKit
def FW(r:Option Nat):Fence:={ Fence.wide with round:=r }
theorem vt{r:Option Nat}{n:Nat}{P:Program}{f:FuncId}{args:Array Value}{w:World}{R:Ending→World→Prop}:CallsIn (FW r) n P f args w R↔Calls P f args w R :=
 (show CallsIn (FW r) n P f args w R↔CallsIn Fence.wide n P f args w R from Iff.rfl).trans callsIn_wide
theorem L4{r:Option Nat}{n:Nat}{P:Program}{row:String}{args:Array Value}{w:World}{R:Value→World→Prop}(h:Rows P row args w R):RowsIn (FW r) n P row args w R :=
 fun c cs _=>let ⟨v,w',r,s⟩:=h c cs;⟨v,w',r,(StepsIn.of_steps s).mono fun m _=>fenced_wide P m⟩
def jd(r:Option Nat)(P:Program)(c:Code)(Q:Exit→Act→World→Prop)(a:Act)(w:World):Prop:=c.wpIn (FW r) 0 P Q a w
theorem dt{r:Option Nat}{P:Program}{o:Oper}{a:Act}{w:World}{K:Act→World→Prop}{Q:Exit→Act→World→Prop}(hd:∀ c,o.op≠.defer c)(h:o.wp P a w K Q):o.wpIn (FW r) 0 P a w K Q:=by
 refine⟨fun _ _=>trivial,?_⟩
 rw [Oper.semAt_eq _ _ _ hd]
 unfold Oper.wp at h
 generalize (execOp a.eval o).run P w=x at h ⊢
 cases x with
 | ok x w' =>
  cases x<;>simp only [Oper.upon]at h<;>simp only [Oper.uponIn]<;>first
   | exact h
   | exact⟨fun h=>by simp [FW,Fence.wide]at h,vt.2 h⟩
   | exact⟨fun h=>by simp [FW,Fence.wide]at h,L4 h⟩
   | exact h.elim
 | halt x w'=>cases x<;>simp only [Oper.upon]at h<;>simp only [Oper.uponIn]<;>first|exact h|exact h.elim
section
variable {r:Option Nat}{P:Program}{Q:Exit→Act→World→Prop}{a:Act}{w:World}
theorem IJ(h:Q .normal a w):jd r P .skip Q a w:=wpIn_skip h
theorem Fg{l:Nat}(h:Q .normal a w):jd r P (.label l) Q a w:=wpIn_label h
theorem zn{id:Nat}(h:Q (.exit id) a w):jd r P (.exit id) Q a w:=wpIn_exit h
theorem CJ(h:Q .ret a w):jd r P .ret Q a w:=wpIn_ret h
theorem CL{x y:Code}(h:jd r P x (Exit.then (jd r P y Q) Q) a w):jd r P (.seq x y) Q a w:=wpIn_seq h
theorem Ff{id:Nat}{c:Code}(h:jd r P c (Exit.inBlock id Q) a w):jd r P (.block id c) Q a w:=wpIn_block h
theorem mv{c:Operand}{x y:Code}(hc:a.eval c=.bool true)(h:jd r P x Q a w):jd r P (.cond c x y) Q a w:=wpIn_cond_true hc h
theorem lz{c:Operand}{x y:Code}(hc:a.eval c=.bool false)(h:jd r P y Q a w):jd r P (.cond c x y) Q a w:=wpIn_cond_false hc h
def dJ(r:Option Nat)(P:Program)(all:Array Oper)(Q:Exit→Act→World→Prop)(l:List Oper)(a:Act)(w:World):Prop:=wpListIn (FW r) 0 P all Q l a w
theorem II{all:Array Oper}(h:Q .normal a w):dJ r P all Q [] a w:=h
theorem jJ{all:Array Oper}{o:Oper}{rest:List Oper}(hw:Region.wanted o (yielded all a.tmps)=true)(h:o.wpIn (FW r) 0 P a w (dJ r P all Q rest) Q):dJ r P all Q (o::rest) a w:=by
 unfold dJ wpListIn
 rw [if_pos hw]
 exact h
theorem Fe{all:Array Oper}{o:Oper}{rest:List Oper}(hw:Region.wanted o (yielded all a.tmps)=false)(h:dJ r P all Q rest (a.put o.dst undef) w):dJ r P all Q (o::rest) a w:=by
 unfold dJ wpListIn
 rw [if_neg (by simp [hw])]
 exact⟨fun _ _=>trivial,h⟩
theorem sP{id:Nat}{ops:Array Oper}(h:dJ r P ops Q ops.toList a w):jd r P (.region id ops false) Q a w:=wpIn_region_list h
theorem iJ{γ:Type}{c:Code}(I:γ→Act→World→Prop)(μ:γ→Nat)(g0:γ)(h0:I g0 a w)
 (round:∀ g a w,I g a w→jd r P c (Exit.then (fun a' w'=>∃ g',I g' a' w'∧μ g'<μ g) Q) a w):jd r P (.loop c) Q a w:=by
 intro b k cs hro hb hr
 have key:∀ n g a w,μ g=n→I g a w →
  ∃ e a' w',Q e a' w'∧ArrivesIn (Machine.fenced P (FW r)) P (lone (b.atR a (.code c::.inLoop c::k)) cs w) b k cs e a' w':=by
  intro n
  induction n using Nat.strongRecOn with
  | _ n ih =>
   intro g a w hn hI
   obtain⟨e,a₁,w₁,hq,harr⟩:=round g a w hI b (.inLoop c::k) cs hro hb hr
   cases e with
   | normal =>
    obtain⟨g',hI₁,hlt⟩:=hq
    obtain⟨e₂,a₂,w₂,hq₂,harr₂⟩:=ih (μ g') (hn▸hlt) g' a₁ w₁ rfl hI₁
    exact⟨e₂,a₂,w₂,hq₂,.of_steps (StepsIn.trans harr (.one (fenced_calm hb hr rfl) stepR_inLoop)) harr₂⟩
   | exit id=>exact⟨_,a₁,w₁,hq,.pass (x:=.inLoop c) rfl (fun _ _=>.inl ai) harr⟩
   | goto l=>exact⟨_,a₁,w₁,hq,.pass (x:=.inLoop c) rfl (fun _ _=>.inl ai) harr⟩
   | ret=>exact⟨_,a₁,w₁,hq,.pass (x:=.inLoop c) rfl (fun _ _=>.inl ai) harr⟩
   | panic ch=>exact⟨_,a₁,w₁,hq,.pass (x:=.inLoop c) rfl (fun _ _=>.inl ai) harr⟩
   | outgrown=>exact⟨_,a₁,w₁,hq,.pass (x:=.inLoop c) rfl (fun _ _=>.inl ai) harr⟩
 obtain⟨e,a',w',hq,harr⟩:=key _ g0 a w rfl h0
 exact⟨e,a',w',hq,.of_steps (.one (fenced_calm hb hr rfl) stepR_loop) harr⟩
def qk(r:Option Nat)(P:Program)(c:Code)(Q:Exit→Act→World→Prop):Nat→Act→World→Prop
 | 0=>fun _ _=>False
 | m+1=>fun a w=>jd r P c (Exit.then (qk r P c Q m) Q) a w
theorem lA{c:Code}{Q':Exit→Act→World→Prop}(h:jd r P c Q a w)(hq:∀ e a' w',Q e a' w'→Q' e a' w'):jd r P c Q' a w:=wpIn_mono h hq
theorem pV{c:Code}(m:Nat)(h:qk r P c Q m a w):jd r P (.loop c) Q a w:=by
 refine iJ (γ:=Nat) (fun m a w=>qk r P c Q m a w) id m h ?_
 intro m a w hm
 cases m with
 | zero=>exact hm.elim
 | succ m =>
  refine lA hm fun e a' w' hq=>?_
  cases e with
  | normal=>exact⟨m,hq,Nat.lt_succ_self m⟩
  | exit id=>exact hq
  | goto l=>exact hq
  | ret=>exact hq
  | panic ch=>exact hq
  | outgrown=>exact hq
end
end Go.Proofs.YtidekfgkpindbaaGreatDoor
namespace Go.Proofs.YtidekfgkpindbaaGreatDoor
open Go Go.RowKit
section
variable {P:Program}{K:Act→World→Prop}{Q:Exit→Act→World→Prop}{a:Act}{w:World}
def yj(D:Nat)(a:Act):Act:={ a with defers:={ target:=.collected D,args:=#[] }::a.defers }
def FC(P:Program)(Q:Exit→Act→World→Prop)(a:Act)(W:World):Option Code→Prop
 | none=>Q .normal a W
 | some c=>jd none P c Q a W
def AN(w:World)(r:Loop):World:=(w.alloc (.deferred (some []))).alloc (.loop r)
theorem Fh{g:Operand}{ps:Array Tmp}{assign body:Code}{gf:Nat}{lb:Array Value}(hg:a.eval g=.func (.func gf) #[] lb)(eg:∀ args w,(callFunc gf args).run P w=.ok (.enter gf args) w)
 (h:∀ r:Loop,r.state=.ready→r.pending=none→r.tmps=a.tmps→r.params=ps→r.assign=assign→r.body=body→r.defers=w.heap.size →
  Calls P gf (#[.func (.yield (w.heap.size+1)) #[] #[]]++lb) (AN w r) fun e W=>∃ v st pe,e=.returned v∧st≠.busy∧W.heap[w.heap.size+1]?=some (.loop { r with state:=st,pending:=pe }) ∧
   FC P Q (yj w.heap.size a) (W.putObj (w.heap.size+1) (.loop { r with state:=.exhausted,pending:=pe })) pe) :
 jd none P (.rangeFunc g ps assign body) Q a w:=by
 refine wpIn_rangeFunc ?_
 intro fn hfn
 rw [show(FW none).round=none from rfl]
 have hc:=h ⟨.ready,none,fn,a.tmps,ps,assign,body,w.heap.size⟩ rfl rfl rfl rfl rfl rfl rfl
 obtain⟨W1,hW1⟩:∃ W1,AN w ⟨.ready,none,fn,a.tmps,ps,assign,body,w.heap.size⟩=W1:=⟨_,rfl⟩
 rw [hW1]at hc
 refine⟨w.heap.size+1,[{ target:=.collected w.heap.size,args:=#[] }],W1,{ target:=.fn (.func gf) lb,args:=#[.func (.yield (w.heap.size+1)) #[] #[]] },W1,gf,
  #[.func (.yield (w.heap.size+1)) #[] #[]]++lb,W1,?_,?_,?_,?_,fun h=>by simp [FW,Fence.wide]at h,?_⟩
 ·rw [← hW1];exact run_enterLoop_outer _ _ _ _ _
 ·simp only [resolve,hg]
  simp [go_sem]
 ·intro f' hf';trivial
 ·simp [invoke,go_sem,eg]
 refine CallsIn.mono (vt.2 hc) ?_
 intro e W hh
 obtain⟨v,st,pe,he,hst,hl,hj⟩:=hh
 subst he
 refine⟨pe,W.putObj (w.heap.size+1) (.loop ⟨.exhausted,pe,fn,a.tmps,ps,assign,body,w.heap.size⟩),?_,?_⟩
 ·exact run_endLoop hl hst
 cases pe with
 | none=>exact hj
 | some c=>exact hj
def LB:Exit→Option (Option Code)
 | .normal=>some none
 | .ret=>some (some .ret)
 | .exit id=>some (some (.exit id))
 | _=>none
def Hl(l:Nat)(r:Loop)(K:Value→World→Prop)(e:Exit)(_:Act)(W:World):Prop :=
 W.heap[l]?=some (.loop { r with state:=.busy })∧match LB e with
  | some pe=>K (.bool pe.isNone) (W.putObj l (.loop { r with state:=if pe.isNone then .ready else .done,pending:=pe }))
  | none=>False
def rR(r:Loop)(args:Array Value):Array Value:=(r.params.zip args).foldl (fun tmps (t,a)=>tmps.setIfInBounds t a) r.tmps
theorem Fj{q:Option Nat}{o:Oper}{f:Operand}{args:Array Operand}{ats:Array TypeId}{l:Nat}{r:Loop}{vs:Array Value}(ho:o.op=.call { callee:=.value f,args,argTypes:=ats })
 (hf:a.eval f=.func (.yield l) #[] #[]) (hargs:args.map a.eval=vs) (hl:w.heap[l]?=some (.loop r)) (hs:vs.size=r.params.size) (hst:r.state=.ready)
 (h:jd (some l) P r.assign (Exit.then (fun a1 W1=>W1.heap[l]?=some (.loop r)∧jd (some l) P r.body (Hl l r fun v W=>K (a.put o.dst v) W) a1 (W1.putObj l (.loop { r with state:=.busy }))) fun _ _ _=>False)
  { tmps:=rR r vs,defers:=[] } w):o.wpIn (FW q) 0 P a w K Q:=by
 refine⟨fun _ _=>trivial,?_⟩
 rw [Oper.semAt_eq _ _ _ (by rw [ho];intro c hc;cases hc)]
 subst hargs
 unfold execOp
 simp only [ho,resolve,Deferred.ofValue,hf,invoke,Sem.run_bind,Sem.run_pure,Result.andThen_ok,Array.empty_append,Array.append_empty,run_yield hl hs,Oper.uponIn]
 refine⟨fun h=>by simp [FW,Fence.wide]at h,?_⟩
 refine roundIn_of_wpIn trivial (wpIn_mono h ?_)
 intro e a1 W1 hq
 cases e with
 | normal =>
  obtain⟨hl1,hb⟩:=hq
  refine⟨_,run_beginRound hl1 hst,wpIn_mono hb ?_⟩
  rintro e2 a2 W2 ⟨hl2,hr⟩
  cases e2 with
  | normal=>exact⟨_,_,run_endRound none hl2,hr⟩
  | ret=>exact⟨_,_,run_endRound (some .ret) hl2,hr⟩
  | exit id=>exact⟨_,_,run_endRound (some (.exit id)) hl2,hr⟩
  | goto t=>exact hr.elim
  | panic c=>exact hr.elim
  | outgrown=>exact hr.elim
 | ret=>exact hq.elim
 | exit id=>exact hq.elim
 | goto t=>exact hq.elim
 | panic c=>exact hq.elim
 | outgrown=>exact hq.elim
def pu:List Deferred→World→Option World
 | [],w=>some w
 | d::ds,w=>match d.target with
  | .collected D=>match w.heap[D]? with
   | some (.deferred (some []))=>pu ds (w.putObj D (.deferred none))
   | _=>none
  | _=>none
def dT(P:Program)(fn:Func)(R:Ending→World→Prop):Exit→Act→World→Prop
 | .normal,a,w|.ret,a,w=>∃ w' v,pu a.defers w=some w'∧(results fn a.tmps).run P w'=.ok v w'∧R (.returned v) w'
 | _,_,_=>False
theorem vL{n:Nat}{fn:Func}{tmps:Array Value}{R:Ending→World→Prop}{v:Value}:∀ (ds:List Deferred)(w w':World),pu ds w=some w'→(results fn tmps).run P w'=.ok v w'→R (.returned v) w'→LeavesInM (FW none) n P fn tmps R ds .returning w
 | [],w,w',h,hr,hR=>by
  obtain rfl:w=w':=by simpa [pu]using h
  exact⟨v,hr,hR⟩
 | d::ds,w,w',h,hr,hR=>by
  unfold pu at h
  split at h
  ·rename_i D hd
   split at h
   ·rename_i hD
    exact⟨ai,.inl ⟨D,_,hd,run_takeDeferred hD,vL ds _ w' h hr hR⟩⟩
   cases h
  cases h
theorem cY{f:FuncId}{fn:Func}{c:Code}{args:Array Value}{R:Ending→World→Prop}(hf:P.funcs[f]?=some fn)(hb:fn.body=some c)
 (h:jd none P c (dT P fn R) { tmps:=args++Array.replicate (fn.ntmps-args.size) undef,defers:=[] } w):Calls P f args w R:=by
 refine vt.1 (callsIn_of_wp_marks (F:=FW none) (n:=0) hf hb trivial (wpIn_mono h ?_) rfl)
 intro e a' W' hq
 cases e with
 | normal=>obtain⟨w',v,h1,h2,h3⟩:=hq;exact vL _ _ _ h1 h2 h3
 | ret=>obtain⟨w',v,h1,h2,h3⟩:=hq;exact vL _ _ _ h1 h2 h3
 | panic c=>exact hq.elim
 | outgrown=>exact hq.elim
 | exit id=>exact hq.elim
 | goto t=>exact hq.elim
end
end Go.Proofs.YtidekfgkpindbaaGreatDoor
namespace Go.Proofs.YtidekfgkpindbaaGreatDoor
open Go Go.RowKit
namespace St
variable {w0:fB}{W W':World}{hs hs':List Ch}{os os':List Ow}{ps ps':List (World→Prop)}
theorem GJ(hs:List Ch)(os:List Ow)(l:Nat)(o:Obj):(bk hs (⟨l,o⟩::os)).Perm (l::bk hs os):=by
 unfold bk
 simp only [List.flatMap_cons,Ow.dS,List.singleton_append]
 exact List.perm_middle
theorem NL(h:St w0 hs os ps W)(o:Obj):St w0 hs (⟨W.heap.size,o⟩::os) ps (W.alloc o):=by
 have h':=h.step (cA W o)
 have hp:=GJ hs os W.heap.size o
 refine⟨h'.b5,h'.dS,fun e he=>?_,hp.nodup_iff.2 (List.nodup_cons.2 ⟨fun hm=>by have:=(h.gL hm).2;omega,h.nodup⟩),fun p hpp W2 h2=>h.pers p hpp W2 ?_⟩
 ·rcases List.mem_cons.1 he with rfl|he
  ·exact⟨h.b5.size,heap_alloc_last W _⟩
  exact h'.own e he
 refine(bp.below (cA W o)).trans' h2 fun b hb hn hm=>?_
 rcases List.mem_cons.1 (hp.mem_iff.1 hm)with rfl|hm'
 ·omega
 exact hn hm'
theorem eB{l k:Nat}{o:Obj}(h:k≠l):(W.putObj l o).heap[k]?=W.heap[k]?:=World.putObj_heap_other h
theorem G3{l:Nat}{o o':Obj}{a b:List Ow}(h:St w0 hs (a++⟨l,o⟩::b) ps W):St w0 hs (a++⟨l,o'⟩::b) ps (W.putObj l o'):=by
 have hm:bk hs (a++⟨l,o'⟩::b)=bk hs (a++⟨l,o⟩::b):=by simp [bk,Ow.dS]
 have hl:l∈bk hs (a++⟨l,o⟩::b):=List.mem_append.2 (.inr (List.mem_flatMap.2 ⟨⟨l,o⟩,ai,by simp [Ow.dS]⟩))
 have h0:=h.own ⟨l,o⟩ ai
 have hlt:=(Array.getElem?_eq_some_iff.1 h0.2).1
 have hnd:=h.nodup
 refine⟨⟨h.b5.os,h.b5.tape,h.b5.output,by have:=h.b5.size;simpa using this,fun k h1 h2=>?_⟩,fun e he=>?_,fun e he=>?_,by rw [hm];exact hnd,fun p hp W2 h2=>h.pers p hp W2 ?_⟩
 ·rw [eB (by have h9:w0.w.heap.size≤l:=h0.1;omega)]
  exact h.b5.block k h1 h2
 ·refine⟨(h.dS e he).1,?_⟩
  rw [eB ?_]
  ·exact(h.dS e he).2
  intro hk
  have h1:=(List.nodup_append.1 hnd).2.2 e.id (List.mem_map.2 ⟨e,he,rfl⟩) l (List.mem_flatMap.2 ⟨⟨l,o⟩,ai,by simp [Ow.dS]⟩)
  exact h1 hk
 ·have hnd2:=(List.nodup_append.1 hnd).2.1
  rw [List.flatMap_append,List.flatMap_cons]at hnd2
  rcases List.mem_append.1 he with he|he
  ·have h1:=h.own e (List.mem_append.2 (.inl he))
   refine⟨h1.1,?_⟩
   rw [eB ?_]
   ·exact h1.2
   exact(List.nodup_append.1 hnd2).2.2 e.id (List.mem_flatMap.2 ⟨e,he,by simp [Ow.dS]⟩) l (List.mem_append.2 (.inl (by simp [Ow.dS])))
  rcases List.mem_cons.1 he with rfl|he
  ·exact⟨h0.1,World.putObj_heap_same hlt⟩
  have h1:=h.own e (List.mem_append.2 (.inr (List.mem_cons_of_mem _ he)))
  refine⟨h1.1,?_⟩
  rw [eB ?_]
  ·exact h1.2
  intro hk
  exact(List.nodup_append.1 (List.nodup_append.1 hnd2).2.1).2.2 l (by simp [Ow.dS]) e.id (List.mem_flatMap.2 ⟨e,he,by simp [Ow.dS]⟩) hk.symm
 rw [hm]at h2
 refine bp.trans ⟨ai,fun b hb hnb=>eB fun e=>hnb ?_⟩ h2
 subst e
 exact hl
theorem Ks{l:Nat}{o:Obj}(h:St w0 hs (⟨l,o⟩::os) ps W):St w0 hs os ps W:=h.oW (List.Sublist.refl _) (List.sublist_cons_self _ _) fun _ h=>h
end St
def gd:List Deferred→List Ow
 | []=>[]
 | d::ds=>match d.target with
  | .collected D=>⟨D,.deferred (some [])⟩::gd ds
  | _=>gd ds
def Marks(ds:List Deferred):Prop:=∀ d∈ds,∃ D,d={ target:=.collected D,args:=#[] }
theorem CE{w0:fB}{hs:List Ch}{os:List Ow}{ps:List (World→Prop)}:∀ (ds:List Deferred)(W:World),Marks ds→St w0 hs (gd ds++os) ps W→∃ W',pu ds W=some W'∧St w0 hs os ps W'
 | [],W,_,h=>⟨W,rfl,h⟩
 | d::ds,W,hm,h=>by
  obtain⟨D,rfl⟩:=hm d ai
  have h0:St w0 hs (⟨D,.deferred (some [])⟩::(gd ds++os)) ps W:=h
  have hD:W.heap[D]?=some (.deferred (some [])):=(h0.own ⟨D,.deferred (some [])⟩ (List.mem_cons_self ..)).2
  obtain⟨W',h1,h2⟩:=CE ds (W.putObj D (.deferred none)) (fun d hd=>hm d (by simp [hd])) (St.G3 (a:=[]) h0).Ks
  exact⟨W',by simp only [pu,hD];exact h1,h2⟩
end Go.Proofs.YtidekfgkpindbaaGreatDoor
namespace Go.Proofs.YtidekfgkpindbaaGreatDoor
open Go Go.RowKit
namespace SX
structure AV where
 b:Nat
 h:Value
 tl:List Value
 deriving Inhabited
inductive V where
 | k (v:Value)
 | x (i:Nat) (path:List Nat)
 | p (n o:Nat)
 | sl (n o l c:Nat)
 | a (cs:List V)
 | t (vs:List V)
 | f (fn:Fn) (first cap:List V)
 | ep (s i:V) (sz o:Nat)
 | ifc (t:TypeId) (v:V)
 | row (n:Nat)
 | cat (cs:List V)
 | y (n:Nat)
 | mapV (n:Nat)
 | pt (s i:V) (up:Bool) (sz:Nat)
 deriving Inhabited
def ae:Value→List Value
 | .agg cs=>cs.toList
 | _=>[]
def comp(v:Value)(j:Nat):Value:=match v with
 | .tuple vs=>vs.toList.getD j undef
 | .agg cs=>cs.toList.getD j undef
 | _=>undef
def zp(s i:Value)(sz o:Nat):Value:=match s,i with
 | .slice (some ad) _ _,.int _ n=>.pointer (some (ad.add (n.toNat*sz+o)))
 | _,_=>.pointer none
def Mp(s i:Value)(up:Bool)(sz:Nat):Value:=match s,i with
 | .slice A l c,.int _ n=>if up then .slice (if c=n.toNat then A else A.map (·.add (n.toNat*sz))) (l-n.toNat) (c-n.toNat)else .slice A n.toNat c
 | _,_=>undef
mutual
def V.den(ρ:List Value)(α:Nat→AV):V→Value
 | .k v=>v
 | .x i path=>path.foldl comp (ρ.getD i undef)
 | .p n o=>.pointer (some ⟨(α n).b,o,none⟩)
 | .sl n o l c=>.slice (some ⟨(α n).b,o,none⟩) l c
 | .a cs=>.agg (ah ρ α cs).toArray
 | .t vs=>.tuple (ah ρ α vs).toArray
 | .f fn first cap=>.func fn (ah ρ α first).toArray (ah ρ α cap).toArray
 | .ep s i sz o=>zp (s.den ρ α) (i.den ρ α) sz o
 | .ifc t v=>.iface t (v.den ρ α)
 | .row n=>(α n).h
 | .cat cs=>.agg ((ah ρ α cs).flatMap ae).toArray
 | .y n=>.func (.yield (α n).b) #[] #[]
 | .mapV n=>.map (some (α n).b)
 | .pt s i up sz=>Mp (s.den ρ α) (i.den ρ α) up sz
def ah(ρ:List Value)(α:Nat→AV):List V→List Value
 | []=>[]
 | v::l=>v.den ρ α::ah ρ α l
end
theorem aE(ρ:List Value)(α:Nat→AV):∀ l:List V,ah ρ α l=l.map (V.den ρ α)
 | []=>by simp [ah]
 | v::l=>by simp [ah,aE ρ α l]
inductive Sh where
 | one
 | ag (n:Nat)
 | tp (l:List Sh)
 | any
 | sl (sz:Nat)
 | agl (l:List Sh)
 deriving Inhabited
mutual
def Sh.fit:Sh→Value→Bool
 | .one,v=>v.oneCell'
 | .ag n,.agg cs=>cs.toList.length == n && cs.toList.all (·.oneCell')
 | .tp l,.tuple vs=>Sh.dL l vs.toList
 | .any,_=>true
 | .sl sz,.agg cs=>decide (0<sz) && cs.toList.length % sz == 0 && cs.toList.all (·.oneCell')
 | .agl l,.agg cs=>Sh.dL l cs.toList
 | _,_=>false
def Sh.dL:List Sh→List Value→Bool
 | [],[]=>true
 | s::l,v::r=>s.fit v && Sh.dL l r
 | _,_=>false
end
def Sh.leaf:Sh→List Nat→Bool
 | .one,[]=>true
 | .ag n,[j]=>decide (j<n)
 | .tp l,j::r=>match l[j]? with
  | some s=>Sh.leaf s r
  | none=>false
 | .agl l,j::r=>match l[j]? with
  | some s=>Sh.leaf s r
  | none=>false
 | _,_=>false
theorem p9:∀ {l:List Sh}{r:List Value}{j:Nat}{s:Sh},Sh.dL l r=true→l[j]?=some s→∃ v,r[j]?=some v∧s.fit v=true
 | [],_,j,s,_,h=>by simp at h
 | _::_,[],_,_,h,_=>by simp [Sh.dL]at h
 | s'::l,v::r,0,s,h,hs=>by
  simp only [Sh.dL,Bool.and_eq_true]at h
  obtain rfl:s'=s:=af hs
  exact⟨v,rfl,h.1⟩
 | s'::l,v::r,j+1,s,h,hs=>by
  simp only [Sh.dL,Bool.and_eq_true]at h
  obtain⟨u,h1,h2⟩:=p9 (j:=j) h.2 (af hs)
  exact⟨u,af h1,h2⟩
theorem qZ:∀ (path:List Nat)(s:Sh)(v:Value),s.leaf path=true→s.fit v=true→(path.foldl comp v).oneCell'=true
 | [],s,v,h,hf=>by
  cases s<;>simp [Sh.leaf]at h
  simpa [Sh.fit]using hf
 | j::r,s,v,h,hf=>by
  cases s with
  | one=>simp [Sh.leaf]at h
  | ag n =>
   cases r with
   | nil =>
    simp only [Sh.leaf,decide_eq_true_eq]at h
    cases v<;>simp [Sh.fit]at hf
    rename_i cs
    obtain⟨h1,h2⟩:=hf
    have hj:j<cs.size:=ab
    simp [comp,hj]
    exact h2 j hj
   | cons _ _=>simp [Sh.leaf]at h
  | any=>simp [Sh.leaf]at h
  | sl n=>simp [Sh.leaf]at h
  | agl l =>
   unfold Sh.leaf at h
   cases hs:l[j]? with
   | none=>simp [hs]at h
   | some s' =>
    rw [hs]at h
    cases v<;>simp [Sh.fit]at hf
    rename_i vs
    obtain⟨u,hu,hfu⟩:=p9 hf hs
    have:comp (.agg vs) j=u:=by simp only [comp,List.getD_eq_getElem?_getD,hu,Option.getD_some]
    rw [List.foldl_cons,this]
    exact qZ r s' u h hfu
  | tp l =>
   unfold Sh.leaf at h
   cases hs:l[j]? with
   | none=>simp [hs]at h
   | some s' =>
    rw [hs]at h
    cases v<;>simp [Sh.fit]at hf
    rename_i vs
    obtain⟨u,hu,hfu⟩:=p9 hf hs
    have:comp (.tuple vs) j=u:=by simp only [comp,List.getD_eq_getElem?_getD,hu,Option.getD_some]
    rw [List.foldl_cons,this]
    exact qZ r s' u h hfu
structure Arg where
 v:Value
 sz:Nat
 cells:List Value
def Arg.rd(W:World)(x:Arg):Prop:=match x.v with
 | .slice A n c=>Rd W x.sz A n x.cells∧n≤c
 | _=>x.sz=0
inductive BK where
 | cells
 | row (sz:Nat)
 | ext (sz:Nat)
 | dead
 | froz
 | mp (k:Nat) (ag:Bool)
 deriving Inhabited,DecidableEq
structure ak where
 c:List V
 t:TypeId
 k:BK
 deriving Inhabited
abbrev IQ (c:List V) (t:TypeId):ak:=⟨c,t,.cells⟩
def bH:ak:=⟨[],0,.dead⟩
inductive LS where
 | ready
 | busy
 | ret
 | exit (id:Nat)
 deriving Inhabited,DecidableEq
structure S where
 fr:List (Option V)
 stk:List (List (Option V))
 hp:List (Option ak)
 ln:List (Option ak)
 sh:List Sh
 kn:List (Nat×List Nat×Value)
 lps:List (Nat×LS)
 cur:FuncId
 deriving Inhabited
def ak.xs(ρ:List Value)(α:Nat→AV)(b:ak):List Value:=(ah ρ α b.c).flatMap ae
def ak.ch(ρ:List Value)(α:Nat→AV)(n:Nat)(b:ak):Option Ch:=match b.k with
 | .cells=>some ⟨(α n).b,(ah ρ α b.c).toArray,b.t⟩
 | .row _=>match (α n).h with
  | .slice (some _) _ _=>some ⟨(α n).b,(b.xs ρ α++(α n).tl).toArray,b.t⟩
  | _=>none
 | .ext _=>none
 | .dead=>none
 | .froz=>none
 | .mp k ag=>some ⟨(α n).b,(b.xs ρ α).toArray,.map k ag⟩
def aU(ρ:List Value)(α:Nat→AV):Nat→List (Option ak)→List Ch
 | _,[]=>[]
 | n,none::l=>aU ρ α (n+1) l
 | n,some b::l=>(b.ch ρ α n).toList++aU ρ α (n+1) l
def Mn(w0:fB)(h:Value):Prop:=∀ ad n c,h=.slice (some ad) n c→0<n→w0.w.heap.size≤ad.block
def fV(B:Nat)(h:Value):Prop:=∀ ad n c,h=.slice (some ad) n c→0<n→B≤ad.block
def jW(w0:fB)(x:Arg)(W:World):Prop:=x.rd W∧(Mn w0 x.v∨((∀ W2,w0.rt W2→x.rd W2)∧∀ B,w0.rf B→fV B x.v))
def ak.ex(w0:fB)(ρ:List Value)(α:Nat→AV)(n:Nat)(b:ak):Option (World→Prop):=match b.k with
 | .ext sz=>some (jW w0 ⟨(α n).h,sz,b.xs ρ α⟩)
 | .froz=>some (fun W=>W.heap[(α n).b]?=some (.cells (ah ρ α b.c).toArray b.t (0,0))∧w0.w.heap.size≤(α n).b)
 | _=>none
def gZ(w0:fB)(ρ:List Value)(α:Nat→AV):Nat→List (Option ak)→List (World→Prop)
 | _,[]=>[]
 | n,none::l=>gZ w0 ρ α (n+1) l
 | n,some b::l=>(b.ex w0 ρ α n).toList++gZ w0 ρ α (n+1) l
def ak.own(b:ak):Bool:=match b.k with
 | .ext _=>false
 | .froz=>false
 | _=>true
theorem ak.kR{w0:fB}{ρ:List Value}{α:Nat→AV}{n:Nat}{b:ak}(h:b.own=true):b.ex w0 ρ α n=none:=by
 unfold ak.own at h
 unfold ak.ex
 cases hk:b.k<;>simp [hk]at h ⊢
theorem cL{w0:fB}{ρ:List Value}{α:Nat→AV}{p:World→Prop}:∀ {hp:List (Option ak)}{k:Nat},p∈gZ w0 ρ α k hp↔∃ (n:Nat)(b:ak),hp[n]?=some (some b)∧b.ex w0 ρ α (k+n)=some p
 | [],k=>by simp [gZ]
 | none::l,k=>by
  unfold gZ
  rw [cL]
  constructor
  ·rintro⟨n,b,h1,h2⟩
   exact⟨n+1,b,af h1,by rwa [show k+(n+1)=k+1+n by omega]⟩
  rintro⟨n,b,h1,h2⟩
  cases n with
  | zero=>simp at h1
  | succ n=>exact⟨n,b,af h1,by rwa [show k+1+n=k+(n+1) by omega]⟩
 | some b::l,k=>by
  unfold gZ
  rw [List.mem_append,cL]
  constructor
  ·rintro(h|⟨n,b,h1,h2⟩)
   ·exact⟨0,b,rfl,by simpa [Option.mem_toList]using h⟩
   exact⟨n+1,b,af h1,by rwa [show k+(n+1)=k+1+n by omega]⟩
  rintro⟨n,b',h1,h2⟩
  cases n with
  | zero =>
   obtain rfl:b=b':=af h1
   exact .inl (by simpa [Option.mem_toList]using h2)
  | succ n=>exact .inr ⟨n,b',af h1,by rwa [show k+1+n=k+(n+1) by omega]⟩
theorem iW{w0:fB}{ρ ρ':List Value}{α α':Nat→AV}{hp hp':List (Option ak)}(h:∀ (n:Nat)(b:ak),hp'[n]?=some (some b)→b.own=true∨∃ b',hp[n]?=some (some b')∧b.ex w0 ρ' α' n=b'.ex w0 ρ α n):∀ p∈gZ w0 ρ' α' 0 hp',p∈gZ w0 ρ α 0 hp:=by
 intro p hpm
 obtain⟨n,b,h1,h2⟩:=cL.1 hpm
 rw [Nat.zero_add]at h2
 rcases h n b h1 with h3|⟨b',h3,h4⟩
 ·rw [ak.kR h3]at h2;cases h2
 exact cL.2 ⟨n,b',h3,by rw [Nat.zero_add,← h4];exact h2⟩
theorem gq{w0:fB}{ρ ρ':List Value}{α α':Nat→AV}{hp hp':List (Option ak)}{ps:List (World→Prop)}(h:∀ p∈gZ w0 ρ' α' 0 hp',p∈gZ w0 ρ α 0 hp):∀ p∈gZ w0 ρ' α' 0 hp'++ps,p∈gZ w0 ρ α 0 hp++ps:=fun p hm=>by
 rcases List.mem_append.1 hm with hm|hm
 ·exact List.mem_append.2 (.inl (h p hm))
 exact List.mem_append.2 (.inr hm)
def ak.bB(ρ:List Value)(α:Nat→AV)(n:Nat)(b:ak):Prop:=match b.k with
 | .row sz=>0<sz∧((b.xs ρ α=[]∧(α n).h=.slice none 0 0)∨∃ len cap,(α n).h=.slice (some ⟨(α n).b,0,none⟩) len cap∧(b.xs ρ α).length=len*sz∧(b.xs ρ α++(α n).tl).length=cap*sz∧len≤cap∧cap≤maxLen)
 | .ext sz=>0<sz∧∃ A len cap,(α n).h=.slice A len cap∧(b.xs ρ α).length=len*sz∧len≤cap∧(0<len→A.isSome=true)
 | _=>True
def ak.kw(ρ:List Value)(α:Nat→AV)(n:Nat)(b:ak):Prop:=match b.k with
 | .row sz=>0<sz∧∃ A len cap,(α n).h=.slice A len cap∧(b.xs ρ α).length=len*sz∧(0<len→A.isSome=true)
 | .ext sz=>0<sz∧∃ A len cap,(α n).h=.slice A len cap∧(b.xs ρ α).length=len*sz∧(0<len→A.isSome=true)
 | _=>True
theorem ak.bB.len{ρ:List Value}{α:Nat→AV}{n:Nat}{b:ak}(h:b.bB ρ α n):b.kw ρ α n:=by
 unfold ak.kw
 unfold ak.bB at h
 split
 ·rename_i sz hk
  rw [hk]at h
  obtain⟨h0,⟨h1,h2⟩|⟨len,cap,h1,h2,_⟩⟩:=h
  ·exact⟨h0,_,_,_,h2,by rw [h1];simp,fun h=>absurd h ab⟩
  exact⟨h0,_,len,cap,h1,h2,fun _=>rfl⟩
 ·rename_i sz hk
  rw [hk]at h
  obtain⟨h0,A,len,cap,h1,h2,_,h3⟩:=h
  exact⟨h0,A,len,cap,h1,h2,h3⟩
 trivial
theorem cy{ρ:List Value}{α:Nat→AV}:∀ {hp:List (Option ak)}{k n:Nat}{o:Option ak},hp[n]?=some o →
 ∃ l1 l2,aU ρ α k hp=l1++((o.bind fun b=>b.ch ρ α (k+n)).toList++l2)∧∀ o',aU ρ α k (hp.set n o')=l1++((o'.bind fun b=>b.ch ρ α (k+n)).toList++l2)
 | [],_,_,_,h=>by simp at h
 | x::l,k,0,o,h=>by
  obtain rfl:x=o:=af h
  refine⟨[],aU ρ α (k+1) l,?_,fun o'=>?_⟩
  ·cases x<;>simp [aU]
  cases o'<;>simp [aU]
 | x::l,k,n+1,o,h=>by
  obtain⟨l1,l2,h1,h2⟩:=cy (ρ:=ρ) (α:=α) (hp:=l) (k:=k+1) (n:=n) (o:=o) (af h)
  rw [show k+1+n=k+(n+1) by omega]at h1
  refine⟨(x.bind fun b=>b.ch ρ α k).toList++l1,l2,?_,fun o'=>?_⟩
  ·cases x<;>simp [aU,h1]
  ·have:=h2 o'
   rw [show k+1+n=k+(n+1) by omega]at this
   cases x<;>simp [aU,this]
theorem qp{k:Nat}{c c':Array Value}{t:CT}(l2:List Ch):∀ l1:List Ch,mj k c t c' (l1++(⟨k,c,t⟩::l2)) (l1++(⟨k,c',t⟩::l2))
 | []=>.here
 | _::l1=>.there (qp l2 l1)
theorem dk{ρ:List Value}{α:Nat→AV}{hp:List (Option ak)}{k n:Nat}{b:ak}{e:Ch}(h:hp[n]?=some (some b))(he:b.ch ρ α (k+n)=some e):e∈aU ρ α k hp:=by
 obtain⟨l1,l2,h1,_⟩:=cy (ρ:=ρ) (α:=α) (k:=k) h
 rw [h1]
 simp [he]
theorem gQ{ρ:List Value}{α:Nat→AV}{hp:List (Option ak)}{k n:Nat}{b b':ak}{id:Nat}{c c':Array Value}{t:CT}(h:hp[n]?=some (some b))(he:b.ch ρ α (k+n)=some ⟨id,c,t⟩)(he':b'.ch ρ α (k+n)=some ⟨id,c',t⟩) :
 mj id c t c' (aU ρ α k hp) (aU ρ α k (hp.set n (some b'))):=by
 obtain⟨l1,l2,h1,h2⟩:=cy (ρ:=ρ) (α:=α) (k:=k) h
 rw [h1,h2]
 simp only [Option.bind_some,he,he',Option.toList_some,List.cons_append,List.nil_append]
 exact qp l2 l1
theorem dy{ρ:List Value}{α:Nat→AV}{hp:List (Option ak)}{k n:Nat}{b:ak}{e:Ch}(h:hp[n]?=some none)(he:b.ch ρ α (k+n)=some e):(e::aU ρ α k hp).Perm (aU ρ α k (hp.set n (some b))):=by
 obtain⟨l1,l2,h1,h2⟩:=cy (ρ:=ρ) (α:=α) (k:=k) h
 rw [h1,h2]
 simp only [Option.bind_some,Option.bind_none,he,Option.toList_some,Option.toList_none,List.cons_append,List.nil_append]
 exact List.perm_middle.symm
theorem gA{ρ:List Value}{α:Nat→AV}{hp:List (Option ak)}{k n:Nat}{b:ak}(h:hp[n]?=some none)(he:b.ch ρ α (k+n)=none):aU ρ α k (hp.set n (some b))=aU ρ α k hp:=by
 obtain⟨l1,l2,h1,h2⟩:=cy (ρ:=ρ) (α:=α) (k:=k) h
 rw [h1,h2]
 simp [he]
theorem fW{ρ:List Value}{α:Nat→AV}:∀ (hp:List (Option ak))(k m:Nat),aU ρ α k (hp++List.replicate m none)=aU ρ α k hp
 | [],k,0=>rfl
 | [],k,m+1=>by
  have:=fW (ρ:=ρ) (α:=α) [] (k+1) m
  simpa [List.replicate_succ,aU]using this
 | none::l,k,m=>by simpa [aU]using fW l (k+1) m
 | some b::l,k,m=>by simpa [aU]using fW l (k+1) m
def Fm(ρ:List Value)(α:Nat→AV)(fr:List (Option V))(tmps:Array Value):Prop :=
 tmps.size=fr.length∧∀ (s:Nat) (v:V),fr[s]?=some (some v)→tmps[s]?=some (v.den ρ α)
structure TF where
 t:Array Value
 ds:List Deferred
 lp:Option (Nat×Loop)
def LS.pe:LS→Option Code
 | .ret=>some .ret
 | .exit id=>some (.exit id)
 | _=>none
def LS.st:LS→LoopState
 | .ready=>.ready
 | .busy=>.busy
 | _=>.done
def eV:List (Nat×LS)→List TF→List Ow
 | _,[]=>[]
 | lps,t::T=>match t.lp with
  | none=>gd t.ds++eV lps T
  | some (l,r)=>match lps with
   | q::lps'=>⟨l,.loop { r with state:=q.2.st,pending:=q.2.pe }⟩::⟨r.defers,.deferred (some [])⟩::(gd t.ds++eV lps' T)
   | []=>gd t.ds++eV [] T
def oi(α:Nat→AV)(ok:Nat→Bool):List (Nat×LS)→List TF→Prop
 | lps,[]=>lps=[]
 | lps,t::T=>Marks t.ds∧match t.lp with
  | none=>oi α ok lps T
  | some (l,r)=>match lps with
   | q::lps'=>(ok q.1=true∧(α q.1).b=l∧r.state=.ready∧r.pending=none∧r.tmps=t.t)∧oi α ok lps' T
   | []=>False
theorem oi.to{α α':Nat→AV}{ok ok':Nat→Bool}(h1:∀ n,ok n=true→α' n=α n)(h2:∀ n,ok n=true→ok' n=true):∀ {T:List TF}{lps:List (Nat×LS)},oi α ok lps T→oi α' ok' lps T
 | [],_,h=>h
 | t::T,lps,h=>by
  unfold oi at h ⊢
  refine⟨h.1,?_⟩
  have h:=h.2
  split at h
  ·exact oi.to h1 h2 h
  split at h
  ·obtain⟨⟨a,b,c⟩,d⟩:=h
   exact⟨⟨h2 _ a,by rw [h1 _ a];exact b,c⟩,oi.to h1 h2 d⟩
  exact h.elim
def xc(ρ:List Value)(α:Nat→AV):List (List (Option V))→List TF→Prop
 | [],[]=>True
 | f::l,t::r=>Fm ρ α f t.t∧xc ρ α l r
 | _,_=>False
structure Good(ρ:List Value)(s:S):Prop where
 len:s.sh.length=ρ.length
 fit:∀ (i:Nat) (h:Sh),s.sh[i]?=some h→h.fit (ρ.getD i undef)=true
 kn:∀ e∈s.kn,e.1<ρ.length∧e.2.1.foldl comp (ρ.getD e.1 undef)=e.2.2
def lv(hp:List (Option ak))(n:Nat):Bool:=match hp[n]? with|some (some _)=>true|_=>false
mutual
def V.wf(hp:List (Option ak))(m:Nat):V→Bool
 | .k _=>true
 | .x i _=>decide (i<m)
 | .p n _=>lv hp n
 | .sl n _ _ _=>lv hp n
 | .row n=>lv hp n
 | .cat cs=>dw hp m cs
 | .y n=>lv hp n
 | .mapV n=>lv hp n
 | .a cs=>dw hp m cs
 | .t vs=>dw hp m vs
 | .f _ first cap=>dw hp m first && dw hp m cap
 | .ep s i _ _=>s.wf hp m && i.wf hp m
 | .pt s i _ _=>s.wf hp m && i.wf hp m
 | .ifc _ v=>v.wf hp m
def dw(hp:List (Option ak))(m:Nat):List V→Bool
 | []=>true
 | v::l=>v.wf hp m && dw hp m l
end
theorem dF{hp:List (Option ak)}{m:Nat}:∀ {l:List V},dw hp m l=true→∀ v∈l,v.wf hp m=true
 | [],_,v,h=>by simp at h
 | u::l,h,v,hm=>by
  simp only [dw,Bool.and_eq_true]at h
  rcases List.mem_cons.1 hm with rfl|hm
  ·exact h.1
  exact dF h.2 v hm
theorem ki{hp:List (Option ak)}{m:Nat}:∀ {l:List V},(∀ v∈l,v.wf hp m=true)→dw hp m l=true
 | [],_=>rfl
 | u::l,h=>by
  simp only [dw,Bool.and_eq_true]
  exact⟨h u (List.mem_cons_self ..),ki fun v hv=>h v (List.mem_cons_of_mem _ hv)⟩
section
variable {hp hp':List (Option ak)}{m m':Nat}
mutual
theorem V.eP(h1:∀ n,lv hp n=true→lv hp' n=true)(h2:m≤m'):∀ v:V,v.wf hp m=true→v.wf hp' m'=true
 | .k _,_=>rfl
 | .x i _,h=>by simp only [V.wf,decide_eq_true_eq]at h ⊢;omega
 | .p n _,h=>h1 n h
 | .sl n _ _ _,h=>h1 n h
 | .row n,h=>h1 n h
 | .cat cs,h=>bS h1 h2 cs h
 | .y n,h=>h1 n h
 | .mapV n,h=>h1 n h
 | .a cs,h=>bS h1 h2 cs h
 | .t cs,h=>bS h1 h2 cs h
 | .f _ a b,h=>by
  simp only [V.wf,Bool.and_eq_true]at h ⊢
  exact⟨bS h1 h2 a h.1,bS h1 h2 b h.2⟩
 | .ep s i _ _,h=>by
  simp only [V.wf,Bool.and_eq_true]at h ⊢
  exact⟨V.eP h1 h2 s h.1,V.eP h1 h2 i h.2⟩
 | .pt s i _ _,h=>by
  simp only [V.wf,Bool.and_eq_true]at h ⊢
  exact⟨V.eP h1 h2 s h.1,V.eP h1 h2 i h.2⟩
 | .ifc _ v,h=>V.eP h1 h2 v h
theorem bS(h1:∀ n,lv hp n=true→lv hp' n=true)(h2:m≤m'):∀ l:List V,dw hp m l=true→dw hp' m' l=true
 | [],_=>rfl
 | v::l,h=>by
  simp only [dw,Bool.and_eq_true]at h ⊢
  exact⟨V.eP h1 h2 v h.1,bS h1 h2 l h.2⟩
end
end
section
variable {hp:List (Option ak)}{ρ ρ':List Value}{α α':Nat→AV}
mutual
theorem V.iT(h1:∀ n,lv hp n=true→(α' n).b=(α n).b∧(α' n).h=(α n).h)(h2:ρ<+:ρ'):∀ v:V,v.wf hp ρ.length=true→v.den ρ' α'=v.den ρ α
 | .k _,_=>rfl
 | .x i path,h=>by
  simp only [V.wf,decide_eq_true_eq]at h
  obtain⟨r,rfl⟩:=h2
  simp [V.den,List.getD_eq_getElem?_getD,List.getElem?_append_left h]
 | .p n o,h=>by simp only [V.den];rw [(h1 n h).1]
 | .sl n o _ _,h=>by simp only [V.den];rw [(h1 n h).1]
 | .row n,h=>by simp only [V.den];rw [(h1 n h).2]
 | .cat cs,h=>by simp only [V.den];rw [fG h1 h2 cs h]
 | .y n,h=>by simp only [V.den];rw [(h1 n h).1]
 | .mapV n,h=>by simp only [V.den];rw [(h1 n h).1]
 | .a cs,h=>by simp only [V.den];rw [fG h1 h2 cs h]
 | .t cs,h=>by simp only [V.den];rw [fG h1 h2 cs h]
 | .f _ a b,h=>by
  simp only [V.wf,Bool.and_eq_true]at h
  simp only [V.den];rw [fG h1 h2 a h.1,fG h1 h2 b h.2]
 | .ep s i _ _,h=>by
  simp only [V.wf,Bool.and_eq_true]at h
  simp only [V.den];rw [V.iT h1 h2 s h.1,V.iT h1 h2 i h.2]
 | .pt s i _ _,h=>by
  simp only [V.wf,Bool.and_eq_true]at h
  simp only [V.den];rw [V.iT h1 h2 s h.1,V.iT h1 h2 i h.2]
 | .ifc _ v,h=>by simp only [V.den];rw [V.iT h1 h2 v h]
theorem fG(h1:∀ n,lv hp n=true→(α' n).b=(α n).b∧(α' n).h=(α n).h)(h2:ρ<+:ρ'):∀ l:List V,dw hp ρ.length l=true→ah ρ' α' l=ah ρ α l
 | [],_=>rfl
 | v::l,h=>by
  simp only [dw,Bool.and_eq_true]at h
  simp only [ah];rw [V.iT h1 h2 v h.1,fG h1 h2 l h.2]
end
theorem V.qG(h1:∀ n,lv hp n=true→α' n=α n)(h2:ρ<+:ρ')(v:V)(h:v.wf hp ρ.length=true):v.den ρ' α'=v.den ρ α:=V.iT (fun n hn=>by rw [h1 n hn];exact⟨rfl,rfl⟩) h2 v h
theorem ez(h1:∀ n,lv hp n=true→α' n=α n)(h2:ρ<+:ρ')(l:List V)(h:dw hp ρ.length l=true):ah ρ' α' l=ah ρ α l:=fG (fun n hn=>by rw [h1 n hn];exact⟨rfl,rfl⟩) h2 l h
end
def IX(hp:List (Option ak))(m:Nat)(fr:List (Option V)):Prop:=∀ v:V,some v∈fr→v.wf hp m=true
def FA(hp:List (Option ak))(m:Nat)(l:List (Option ak)):Prop:=∀ b:ak,some b∈l→dw hp m b.c=true
structure S.Wf(s:S)(m:Nat):Prop where
 fr:IX s.ln m s.fr
 stk:∀ f∈s.stk,IX s.ln m f
 hp:FA s.ln m s.hp
 ln:FA s.ln m s.ln
theorem IX.mono{hp hp':List (Option ak)}{m m':Nat}{fr:List (Option V)}(h:IX hp m fr)(h1:∀ n,lv hp n=true→lv hp' n=true)(h2:m≤m'):IX hp' m' fr:=fun v hv=>V.eP h1 h2 v (h v hv)
theorem FA.mono{hp hp' l:List (Option ak)}{m m':Nat}(h:FA hp m l)(h1:∀ n,lv hp n=true→lv hp' n=true)(h2:m≤m'):FA hp' m' l:=fun v hv=>bS h1 h2 v.c (h v hv)
section
variable {hp:List (Option ak)}{ρ ρ':List Value}{α α':Nat→AV}(h1:∀ n,lv hp n=true→α' n=α n)(h2:ρ<+:ρ')
include h1 h2
theorem Fm.to{fr:List (Option V)}{tmps:Array Value}(h:Fm ρ α fr tmps)(hw:IX hp ρ.length fr):Fm ρ' α' fr tmps :=
 ⟨h.1,fun s v hv=>by rw [V.qG h1 h2 v (hw v (List.mem_of_getElem? hv))];exact h.2 s v hv⟩
theorem xc.to:∀ {l:List (List (Option V))}{T:List TF},xc ρ α l T→(∀ f∈l,IX hp ρ.length f)→xc ρ' α' l T
 | [],[],_,_=>trivial
 | f::l,t::T,h,hw=>⟨h.1.to h1 h2 (hw f (List.mem_cons_self ..)),xc.to h.2 fun g hg=>hw g (List.mem_cons_of_mem _ hg)⟩
 | [],_::_,h,_=>h
 | _::_,[],h,_=>h
theorem qE{n:Nat}{b:ak}(hb:dw hp ρ.length b.c=true)(hn:lv hp n=true):b.ch ρ' α' n=b.ch ρ α n∧(b.bB ρ' α' n↔b.bB ρ α n)∧(b.kw ρ' α' n↔b.kw ρ α n)∧∀ w0:fB,b.ex w0 ρ' α' n=b.ex w0 ρ α n:=by
 have e:=ez h1 h2 b.c hb
 have e2:=h1 n hn
 refine⟨?_,?_,?_,fun w0=>?_⟩
 ·unfold ak.ch ak.xs;rw [e,e2]
 ·unfold ak.bB ak.xs;rw [e,e2]
 ·unfold ak.kw ak.xs;rw [e,e2]
 unfold ak.ex ak.xs;rw [e,e2]
theorem z7:∀ {l:List (Option ak)}(k:Nat),FA hp ρ.length l→(∀ n b,l[n]?=some (some b)→lv hp (k+n)=true)→aU ρ' α' k l=aU ρ α k l
 | [],_,_,_=>rfl
 | none::l,k,h,hl=>by
  unfold aU
  exact z7 (k+1) (fun b hb=>h b (List.mem_cons_of_mem _ hb)) fun n b hb=>by
   have:=hl (n+1) b (af hb)
   rwa [show k+1+n=k+(n+1) by omega]
 | some b::l,k,h,hl=>by
  unfold aU
  rw [z7 (k+1) (fun b hb=>h b (List.mem_cons_of_mem _ hb)) fun n b hb=>by
   have:=hl (n+1) b (af hb)
   rwa [show k+1+n=k+(n+1) by omega],(qE h1 h2 (h b (List.mem_cons_self ..)) (by simpa using hl 0 b rfl)).1]
end
theorem yg{hp:List (Option ak)}{n:Nat}{b:ak}(h:hp[n]?=some (some b)):lv hp n=true:=by simp [lv,h]
theorem pY{hp ln:List (Option ak)}{ρ ρ':List Value}{α α':Nat→AV}(h1:∀ n,lv ln n=true→α' n=α n)(h2:ρ<+:ρ')(hw:FA ln ρ.length hp)(hl:∀ (n:Nat)(b:ak),hp[n]?=some (some b)→lv ln n=true):aU ρ' α' 0 hp=aU ρ α 0 hp :=
 z7 h1 h2 0 hw fun n b hb=>by rw [Nat.zero_add];exact hl n b hb
theorem BZ{w0:fB}{hp ln:List (Option ak)}{ρ ρ':List Value}{α α':Nat→AV}(h1:∀ n,lv ln n=true→α' n=α n)(h2:ρ<+:ρ')(hw:FA ln ρ.length hp)(hl:∀ (n:Nat)(b:ak),hp[n]?=some (some b)→lv ln n=true):∀ p∈gZ w0 ρ' α' 0 hp,p∈gZ w0 ρ α 0 hp :=
 iW fun n b hb=>.inr ⟨b,hb,(qE h1 h2 (hw b (List.mem_of_getElem? hb)) (hl n b hb)).2.2.2 w0⟩
theorem jF{w0:fB}{hs:List Ch}{os:List Ow}{ps ps':List (World→Prop)}{W:World}(h:St w0 hs os ps W)(hp:∀ p∈ps',p∈ps):St w0 hs os ps' W:=h.oW (.refl _) (.refl _) hp
def dP(a:Act)(s:S)(T:List TF):List Ow:=gd a.defers++eV s.lps T
@[simp] theorem put_defers (a:Act) (d:Option Tmp) (v:Value):(a.put d v).defers=a.defers:=by cases d<;>rfl
@[simp] theorem OB (a:Act) (d:Option Tmp) (v:Value) (s:S) (T:List TF):dP (a.put d v) s T=dP a s T:=by unfold dP;rw [put_defers]
structure aF(w0:fB)(ps:List (World→Prop))(T:List TF)(ρ:List Value)(s:S)(a:Act)(W:World)(α:Nat→AV):Prop where
 defers:Marks a.defers∧oi α (lv s.ln) s.lps T
 good:Good ρ s
 wf:s.Wf ρ.length
 fm:Fm ρ α s.fr a.tmps
 lO:xc ρ α s.stk T
 st:St w0 (aU ρ α 0 s.hp) (dP a s T) (gZ w0 ρ α 0 s.hp++ps) W
 rows:∀ (n:Nat) (b:ak),s.hp[n]?=some (some b)→lv s.ln n=true∧b.bB ρ α n
 lens:∀ (n:Nat) (b:ak),s.ln[n]?=some (some b)→b.kw ρ α n
def Inv(w0:fB)(ps:List (World→Prop))(T:List TF)(ρ:List Value)(s:S)(a:Act)(W:World):Prop:=∃ α,aF w0 ps T ρ s a W α
theorem Jp{ρ:List Value}{sh:List Sh}{v:Value}{h:Sh}(hl:sh.length=ρ.length)(hf:∀ (i:Nat)(h:Sh),sh[i]?=some h→h.fit (ρ.getD i undef)=true)(hv:h.fit v=true):∀ (i:Nat)(h':Sh),(sh++[h])[i]?=some h'→h'.fit ((ρ++[v]).getD i undef)=true:=by
 intro i h' hi
 by_cases hlt:i<sh.length
 ·rw [List.getElem?_append_left hlt]at hi
  have:=hf i h' hi
  rwa [List.getD_eq_getElem?_getD,List.getElem?_append_left ab,← List.getD_eq_getElem?_getD]
 rw [List.getElem?_append_right ab]at hi
 have h0:i-sh.length=0:=by
  rcases Nat.eq_zero_or_pos (i-sh.length)with h0|h0
  ·exact h0
  rw [List.getElem?_eq_none aw]at hi;cases hi
 rw [h0]at hi
 obtain rfl:h=h':=af hi
 have:i=ρ.length:=ab
 subst this
 simpa [List.getD_eq_getElem?_getD]using hv
def S.ext(s:S)(h:Sh):S:={ s with sh:=s.sh++[h] }
def S.dec(s:S)(i:Nat)(path:List Nat)(v:Value):S:={ s with kn:=(i,path,v)::s.kn }
def S.put(s:S)(d:Option Tmp)(v:V):S:=match d with
 | some d=>{ s with fr:=s.fr.set d (some v) }
 | none=>s
def S.lay(s:S)(n:Nat)(b:ak):S:={ s with hp:=s.hp.set n (some b) }
def S.make(s:S)(n:Nat)(b:ak):S:={ s with hp:=s.hp.set n (some b),ln:=s.ln.set n (some b) }
def S.freeze(s:S)(n:Nat):S:=match (s.hp[n]?).join with
 | some b=>s.lay n ⟨b.c,b.t,.froz⟩
 | none=>s
def S.cE(s:S)(n:Nat):S:=match (s.hp[n]?).join with
 | some b=>match b.k with
  | .row sz=>s.lay n ⟨b.c,b.t,.ext sz⟩
  | _=>s
 | none=>s
def Gy(n m:Nat):Option V→Option V
 | some (.row k)=>if k=n then some (.x m [])else some (.row k)
 | o=>o
def S.last(s:S)(n:Nat):S:={ (s.cE n)with fr:=(s.cE n).fr.map (Gy n s.sh.length),sh:=(s.cE n).sh++[.one] }
def S.room(s:S)(m:Nat):S:={ s with hp:=s.hp++List.replicate m none,ln:=s.ln++List.replicate m none }
section
variable {w0:fB}{ps:List (World→Prop)}{T:List TF}{ρ:List Value}{s:S}{a:Act}{W W':World}{α:Nat→AV}
theorem aF.step(h:aF w0 ps T ρ s a W α)(hb:Below W.heap.size W W'):aF w0 ps T ρ s a W' α:=⟨h.defers,h.good,h.wf,h.fm,h.lO,h.st.step hb,h.rows,h.lens⟩
theorem aF.live(h:aF w0 ps T ρ s a W α):∀ (n:Nat)(b:ak),s.hp[n]?=some (some b)→lv s.ln n=true:=fun n b hb=>(h.rows n b hb).1
theorem aF.fact(h:aF w0 ps T ρ s a W α){p:World→Prop}(hp:p∈ps):p W:=h.st.fact (List.mem_append.2 (.inr hp))
theorem ql{hp ln:List (Option ak)}{ρ ρ':List Value}{α α':Nat→AV}(h1:∀ n,lv ln n=true→α' n=α n)(h2:ρ<+:ρ')(hw:FA ln ρ.length hp)(h:∀ (n:Nat)(b:ak),hp[n]?=some (some b)→lv ln n=true∧b.bB ρ α n):∀ (n:Nat)(b:ak),hp[n]?=some (some b)→lv ln n=true∧b.bB ρ' α' n:=fun n b hb=>⟨(h n b hb).1,(qE h1 h2 (hw b (List.mem_of_getElem? hb)) (h n b hb).1).2.1.2 (h n b hb).2⟩
theorem qd{ln:List (Option ak)}{ρ ρ':List Value}{α α':Nat→AV}(h1:∀ n,lv ln n=true→α' n=α n)(h2:ρ<+:ρ')(hw:FA ln ρ.length ln)(h:∀ (n:Nat)(b:ak),ln[n]?=some (some b)→b.kw ρ α n):∀ (n:Nat)(b:ak),ln[n]?=some (some b)→b.kw ρ' α' n:=fun n b hb=>(qE h1 h2 (hw b (List.mem_of_getElem? hb)) (yg hb)).2.2.1.2 (h n b hb)
theorem Inv.step(h:Inv w0 ps T ρ s a W)(hb:Below W.heap.size W W'):Inv w0 ps T ρ s a W':=let ⟨α,h⟩:=h;⟨α,h.step hb⟩
theorem Good.ext(hg:Good ρ s){h:Sh}{v:Value}(hv:h.fit v=true):Good (ρ++[v]) (s.ext h) :=
 ⟨by simp [S.ext,hg.len],Jp hg.len hg.fit hv,fun e he=>by
  obtain⟨h1,h2⟩:=hg.kn e he
  refine⟨aw,?_⟩
  rwa [List.getD_eq_getElem?_getD,List.getElem?_append_left h1,← List.getD_eq_getElem?_getD]⟩
theorem aF.ext(hI:aF w0 ps T ρ s a W α){h:Sh}{v:Value}(hv:h.fit v=true):aF w0 ps T (ρ++[v]) (s.ext h) a W α:=by
 have hp:ρ<+:ρ++[v]:=⟨[v],rfl⟩
 have hl:ρ.length≤(ρ++[v]).length:=ai
 have ha:∀ n,lv s.ln n=true→α n=α n:=fun _ _=>rfl
 refine⟨hI.defers,hI.good.ext hv,⟨hI.wf.fr.mono (fun _ h=>h) hl,fun f hf=>(hI.wf.stk f hf).mono (fun _ h=>h) hl,hI.wf.hp.mono (fun _ h=>h) hl,hI.wf.ln.mono (fun _ h=>h) hl⟩,hI.fm.to ha hp hI.wf.fr,hI.lO.to ha hp hI.wf.stk,?_,ql ha hp hI.wf.hp hI.rows,qd ha hp hI.wf.ln hI.lens⟩
 show St w0 (aU (ρ++[v]) α 0 s.hp) (dP a s T) (gZ w0 (ρ++[v]) α 0 s.hp++ps) W
 rw [pY ha hp hI.wf.hp hI.live]
 exact jF hI.st (gq (BZ ha hp hI.wf.hp hI.live))
theorem aF.dec(hI:aF w0 ps T ρ s a W α){i:Nat}{path:List Nat}{v:Value}(hi:i<ρ.length)(hv:path.foldl comp (ρ.getD i undef)=v):aF w0 ps T ρ (s.dec i path v) a W α :=
 ⟨hI.defers,⟨hI.good.len,hI.good.fit,fun e he=>by
  rcases List.mem_cons.1 he with rfl|he
  ·exact⟨hi,hv⟩
  exact hI.good.kn e he⟩,⟨hI.wf.fr,hI.wf.stk,hI.wf.hp,hI.wf.ln⟩,hI.fm,hI.lO,hI.st,hI.rows,hI.lens⟩
theorem mem_set{α:Type}{l:List α}{i:Nat}{x y:α}(h:y∈l.set i x):y=x∨y∈l:=by
 rcases List.mem_or_eq_of_mem_set h with h|h
 ·exact .inr h
 exact .inl h
theorem Fm.set{fr:List (Option V)}{tmps:Array Value}(h:Fm ρ α fr tmps)(d:Nat)(v:V):Fm ρ α (fr.set d (some v)) (tmps.setIfInBounds d (v.den ρ α)):=by
 refine⟨by simp [h.1],fun s u hu=>?_⟩
 rw [List.getElem?_set]at hu
 rw [Array.getElem?_setIfInBounds]
 by_cases hd:d=s
 ·subst hd
  rw [if_pos rfl]at hu
  split at hu
  ·rename_i hlt
   obtain rfl:v=u:=af hu
   rw [if_pos rfl,if_pos (by rw [h.1];exact hlt)]
  cases hu
 rw [if_neg hd]at hu
 rw [if_neg hd]
 exact h.2 s u hu
theorem aF.put(hI:aF w0 ps T ρ s a W α)(d:Option Tmp){v:V}(hv:v.wf s.ln ρ.length=true):aF w0 ps T ρ (s.put d v) (a.put d (v.den ρ α)) W α:=by
 cases d with
 | none=>exact hI
 | some d =>
  refine⟨hI.defers,⟨hI.good.len,hI.good.fit,hI.good.kn⟩,⟨fun u hu=>?_,hI.wf.stk,hI.wf.hp,hI.wf.ln⟩,hI.fm.set d v,hI.lO,hI.st,hI.rows,hI.lens⟩
  rcases mem_set hu with h|h
  ·obtain rfl:u=v:=af h
   exact hv
  exact hI.wf.fr u h
theorem aF.fN(hI:aF w0 ps T ρ s a W α)(d:Option Tmp){v:V}(hv:v.wf s.ln ρ.length=true){u:Value}(hu:u=v.den ρ α):aF w0 ps T ρ (s.put d v) (a.put d u) W α:=hu▸hI.put d hv
theorem cX{hp:List (Option ak)}{n:Nat}:lv hp n=true↔∃ b,hp[n]?=some (some b):=by
 unfold lv
 cases h:hp[n]? with
 | none=>simp
 | some o=>cases o<;>simp
theorem Aw{hp:List (Option ak)}{m n:Nat}{b:ak}(h:lv hp n=true):lv (hp.set m (some b)) n=true:=by
 rw [cX]at *
 obtain⟨c,hc⟩:=h
 rw [List.getElem?_set]
 by_cases hm:m=n
 ·subst hm
  have:=(List.getElem?_eq_some_iff.1 hc).1
  exact⟨b,by simp [this]⟩
 exact⟨c,by simp [hm,hc]⟩
theorem uc{hp:List (Option ak)}{m n:Nat}(h:lv hp n=true)(hm:hp[m]?=some none):n≠m:=by
 rintro rfl
 simp [lv,hm]at h
theorem bD{hp:List (Option ak)}{m n:Nat}{x b:ak}(h:(hp.set m (some x))[n]?=some (some b)):(n=m∧b=x)∨(n≠m∧hp[n]?=some (some b)):=by
 rw [List.getElem?_set]at h
 split at h
 ·rename_i e
  subst e
  split at h
  ·exact .inl ⟨rfl,by simpa using h.symm⟩
  cases h
 rename_i e
 exact .inr ⟨fun h=>e h.symm,h⟩
def bh(s:S)(n:Nat):Prop:=s.hp[n]?=some none∧s.ln[n]?=some none
theorem aF.GL(hI:aF w0 ps T ρ s a W α){nm:Nat}(hnm:bh s nm){b:ak}(hb:dw s.ln ρ.length b.c=true){W':World}(A:AV)(hS:∀ α',α' nm=A→(∀ n,lv s.ln n=true→α' n=α n)→ah ρ α' b.c=ah ρ α b.c→aU ρ α' 0 s.hp=aU ρ α 0 s.hp→St w0 (aU ρ α' 0 (s.hp.set nm (some b))) (dP a s T) ((b.ex w0 ρ α' nm).toList++(gZ w0 ρ α 0 s.hp++ps)) W'∧b.bB ρ α' nm) :
 ∃ α',α' nm=A∧(∀ n,lv s.ln n=true→α' n=α n)∧aF w0 ps T ρ (s.make nm b) a W' α':=by
 have ha:∀ n,lv s.ln n=true→(fun n=>if n=nm then A else α n) n=α n:=fun n hn=>by simp [uc hn hnm.2]
 have hr:=List.prefix_refl ρ
 have hlv:∀ n,lv s.ln n=true→lv (s.ln.set nm (some b)) n=true:=fun n hn=>Aw hn
 have hnl:lv (s.ln.set nm (some b)) nm=true:=cX.2 ⟨b,by rw [List.getElem?_set];simp [(List.getElem?_eq_some_iff.1 hnm.2).1]⟩
 obtain⟨h1,h2⟩:=hS (fun n=>if n=nm then A else α n) ai ha (ez ha hr b.c hb) (pY ha hr hI.wf.hp hI.live)
 refine⟨fun n=>if n=nm then A else α n,ai,ha,⟨hI.defers.1,hI.defers.2.to ha hlv⟩,⟨hI.good.len,hI.good.fit,hI.good.kn⟩,⟨hI.wf.fr.mono hlv (Nat.le_refl _),fun f hf=>(hI.wf.stk f hf).mono hlv (Nat.le_refl _),fun c hc=>?_,fun c hc=>?_⟩,hI.fm.to ha hr hI.wf.fr,hI.lO.to ha hr hI.wf.stk,jF h1 ?_,fun n c hc=>?_,fun n c hc=>?_⟩
 case refine_3 =>
  intro p hp
  rcases List.mem_append.1 hp with hp|hp
  ·obtain⟨n,c,hc,he⟩:=cL.1 hp
   rw [Nat.zero_add]at he
   rcases bD hc with ⟨rfl,rfl⟩|⟨_,h⟩
   ·exact List.mem_append.2 (.inl (by rw [he];simp))
   refine List.mem_append.2 (.inr (List.mem_append.2 (.inl (cL.2 ⟨n,c,h,?_⟩))))
   rw [Nat.zero_add,← (qE ha hr (hI.wf.hp c (List.mem_of_getElem? h)) (hI.live n c h)).2.2.2 w0]
   exact he
  exact List.mem_append.2 (.inr (List.mem_append.2 (.inr hp)))
 ·rcases mem_set hc with h|h
  ·obtain rfl:c=b:=af h
   exact bS hlv (Nat.le_refl _) c.c hb
  exact bS hlv (Nat.le_refl _) c.c (hI.wf.hp c h)
 ·rcases mem_set hc with h|h
  ·obtain rfl:c=b:=af h
   exact bS hlv (Nat.le_refl _) c.c hb
  exact bS hlv (Nat.le_refl _) c.c (hI.wf.ln c h)
 ·rcases bD hc with ⟨rfl,rfl⟩|⟨_,h⟩
  ·exact⟨hnl,h2⟩
  obtain⟨h3,h4⟩:=ql ha hr hI.wf.hp hI.rows n c h
  exact⟨hlv n h3,h4⟩
 rcases bD hc with ⟨rfl,rfl⟩|⟨_,h⟩
 ·exact h2.len
 exact qd ha hr hI.wf.ln hI.lens n c h
theorem aF.move(hI:aF w0 ps T ρ s a W α){nm n:Nat}(hnm:bh s nm)(hn:lv s.ln n=true){b:ak}(hb:dw s.ln ρ.length b.c=true){W':World}(A:AV)(hS:∀ α',α' nm=A→(∀ n,lv s.ln n=true→α' n=α n)→ah ρ α' b.c=ah ρ α b.c→(∀ (m:Nat)(c:ak),s.hp[m]?=some (some c)→c.ch ρ α' m=c.ch ρ α m)→aU ρ α' 0 s.hp=aU ρ α 0 s.hp→St w0 (aU ρ α' 0 ((s.hp.set nm (some b)).set n (some bH))) (dP a s T) (gZ w0 ρ α 0 s.hp++ps) W'∧b.bB ρ α' nm)(hbo:b.own=true) :
 ∃ α',α' nm=A∧(∀ n,lv s.ln n=true→α' n=α n)∧aF w0 ps T ρ ((s.make nm b).lay n bH) a W' α':=by
 have ha:∀ n,lv s.ln n=true→(fun n=>if n=nm then A else α n) n=α n:=fun n hn=>by simp [uc hn hnm.2]
 have hr:=List.prefix_refl ρ
 have hlv:∀ m,lv s.ln m=true→lv (s.ln.set nm (some b)) m=true:=fun m hm=>Aw hm
 have hnl:lv (s.ln.set nm (some b)) nm=true:=cX.2 ⟨b,by rw [List.getElem?_set];simp [(List.getElem?_eq_some_iff.1 hnm.2).1]⟩
 obtain⟨h1,h2⟩:=hS (fun n=>if n=nm then A else α n) ai ha (ez ha hr b.c hb) (fun m c hm=>(qE ha hr (hI.wf.hp c (List.mem_of_getElem? hm)) (hI.live m c hm)).1) (pY ha hr hI.wf.hp hI.live)
 refine⟨fun n=>if n=nm then A else α n,ai,ha,⟨hI.defers.1,hI.defers.2.to ha hlv⟩,⟨hI.good.len,hI.good.fit,hI.good.kn⟩,⟨hI.wf.fr.mono hlv (Nat.le_refl _),fun f hf=>(hI.wf.stk f hf).mono hlv (Nat.le_refl _),fun c hc=>?_,fun c hc=>?_⟩,hI.fm.to ha hr hI.wf.fr,hI.lO.to ha hr hI.wf.stk,jF h1 (gq (iW fun m c hc=>?_)),fun m c hc=>?_,fun n c hc=>?_⟩
 case refine_3 =>
  rcases bD hc with ⟨rfl,rfl⟩|⟨_,h⟩
  ·exact .inl rfl
  rcases bD h with ⟨rfl,rfl⟩|⟨_,h⟩
  ·exact .inl hbo
  exact .inr ⟨c,h,(qE ha hr (hI.wf.hp c (List.mem_of_getElem? h)) (hI.live m c h)).2.2.2 w0⟩
 ·rcases mem_set hc with h|h
  ·obtain rfl:c=bH:=af h
   rfl
  rcases mem_set h with h|h
  ·obtain rfl:c=b:=af h
   exact bS hlv (Nat.le_refl _) c.c hb
  exact bS hlv (Nat.le_refl _) c.c (hI.wf.hp c h)
 ·rcases mem_set hc with h|h
  ·obtain rfl:c=b:=af h
   exact bS hlv (Nat.le_refl _) c.c hb
  exact bS hlv (Nat.le_refl _) c.c (hI.wf.ln c h)
 ·rcases bD hc with ⟨rfl,rfl⟩|⟨_,h⟩
  ·exact⟨hlv _ hn,by simp [ak.bB,bH]⟩
  rcases bD h with ⟨rfl,rfl⟩|⟨_,h⟩
  ·exact⟨hnl,h2⟩
  obtain⟨h3,h4⟩:=ql ha hr hI.wf.hp hI.rows m c h
  exact⟨hlv m h3,h4⟩
 rcases bD hc with ⟨rfl,rfl⟩|⟨_,h⟩
 ·exact h2.len
 exact qd ha hr hI.wf.ln hI.lens n c h
theorem aF.LK(hI:aF w0 ps T ρ s a W α){nm sz:Nat}(hnm:bh s nm){b:ak}(hk:b.k=.ext sz)(hb:dw s.ln ρ.length b.c=true){W':World}(A:AV)(hS:St w0 (aU ρ α 0 s.hp) (dP a s T) (gZ w0 ρ α 0 s.hp++ps) W')(h0:0<sz)(hl:∃ ad len cap,A.h=.slice ad len cap∧(b.xs ρ α).length=len*sz∧len≤cap∧(0<len→ad.isSome=true))
 (hx:∀ W2,bp (bk (aU ρ α 0 s.hp) (dP a s T)) W' W2→jW w0 ⟨A.h,sz,b.xs ρ α⟩ W2) :
 ∃ α',α' nm=A∧(∀ n,lv s.ln n=true→α' n=α n)∧aF w0 ps T ρ (s.make nm b) a W' α':=by
 refine hI.GL hnm hb A fun α' h1 h2 h3 h4=>⟨?_,?_⟩
 ·have hxs:b.xs ρ α'=b.xs ρ α:=by unfold ak.xs;rw [h3]
  rw [gA (k:=0) hnm.1 (by simp only [ak.ch,hk]),h4]
  simp only [ak.ex,hk,h1,hxs,Option.toList_some,List.cons_append,List.nil_append]
  exact hS.eO hx
 have hxs:b.xs ρ α'=b.xs ρ α:=by unfold ak.xs;rw [h3]
 simp only [ak.bB,hk,h1,hxs]
 exact⟨h0,hl⟩
theorem aF.new(hI:aF w0 ps T ρ s a W α){nm:Nat}(hnm:bh s nm){b:ak}(hk:b.k=.cells)(hb:dw s.ln ρ.length b.c=true){k:Nat}{W':World}(hS:St w0 (⟨k,(ah ρ α b.c).toArray,b.t⟩::aU ρ α 0 s.hp) (dP a s T) (gZ w0 ρ α 0 s.hp++ps) W') :
 ∃ α',(α' nm).b=k∧(∀ n,lv s.ln n=true→α' n=α n)∧aF w0 ps T ρ (s.make nm b) a W' α':=by
 obtain⟨α',h1,h2,h3⟩:=hI.GL hnm hb (W':=W') ⟨k,undef,[]⟩ fun α' h1 h2 h3 h4=>by
  refine⟨St.perm ?_ (dy (k:=0) hnm.1 (e:=⟨k,(ah ρ α b.c).toArray,b.t⟩) ?_),?_⟩
  ·rw [h4,ak.kR (by simp [ak.own,hk])];exact hS
  ·simp only [ak.ch,hk,Nat.zero_add,h1,h3]
  simp only [ak.bB,hk]
 exact⟨α',by rw [h1],h2,h3⟩
theorem aF.PP(hI:aF w0 ps T ρ s a W α){n:Nat}{b b':ak}(hn:s.hp[n]?=some (some b))(hc:dw s.ln ρ.length b'.c=true)(hr:b'.bB ρ α n)(hbo:b'.own=true){W':World}(hS:St w0 (aU ρ α 0 (s.hp.set n (some b'))) (dP a s T) (gZ w0 ρ α 0 s.hp++ps) W'):aF w0 ps T ρ (s.lay n b') a W' α:=by
 refine⟨hI.defers,⟨hI.good.len,hI.good.fit,hI.good.kn⟩,⟨hI.wf.fr,hI.wf.stk,fun d hd=>?_,hI.wf.ln⟩,hI.fm,hI.lO,jF hS (gq (iW fun m c hcm=>?_)),fun m c hcm=>?_,hI.lens⟩
 case refine_2 =>
  rcases bD hcm with ⟨rfl,rfl⟩|⟨_,h⟩
  ·exact .inl hbo
  exact .inr ⟨c,h,rfl⟩
 ·rcases mem_set hd with h|h
  ·obtain rfl:d=b':=af h
   exact hc
  exact hI.wf.hp d h
 rcases bD hcm with ⟨rfl,rfl⟩|⟨_,h⟩
 ·exact⟨hI.live _ _ hn,hr⟩
 exact hI.rows m c h
theorem aF.wr(hI:aF w0 ps T ρ s a W α){n:Nat}{b:ak}(hn:s.hp[n]?=some (some b))(hk:b.k=.cells){c:List V}(hc:dw s.ln ρ.length c=true){W':World}(hS:St w0 (aU ρ α 0 (s.hp.set n (some ⟨c,b.t,b.k⟩))) (dP a s T) (gZ w0 ρ α 0 s.hp++ps) W'):aF w0 ps T ρ (s.lay n ⟨c,b.t,b.k⟩) a W' α :=
 hI.PP hn hc (by simp [ak.bB,hk]) (by simp [ak.own,hk]) hS
theorem Av{hp:List (Option ak)}{m n:Nat}(h:lv hp n=true):lv (hp++List.replicate m none) n=true:=by
 unfold lv at *
 by_cases hn:n<hp.length
 ·rw [List.getElem?_append_left hn];exact h
 rw [List.getElem?_eq_none ab]at h;cases h
theorem zA{hp:List (Option ak)}{m n:Nat}{b:ak}(hb:(hp++List.replicate m none)[n]?=some (some b)):hp[n]?=some (some b):=by
 rw [List.getElem?_append]at hb
 split at hb
 ·exact hb
 rw [List.getElem?_replicate]at hb;split at hb<;>simp at hb
theorem aF.room(hI:aF w0 ps T ρ s a W α)(m:Nat):aF w0 ps T ρ (s.room m) a W α:=by
 have hlv:∀ n,lv s.ln n=true→lv (s.ln++List.replicate m none) n=true:=fun n hn=>Av hn
 refine⟨⟨hI.defers.1,hI.defers.2.to (fun _ _=>rfl) hlv⟩,⟨hI.good.len,hI.good.fit,hI.good.kn⟩,⟨hI.wf.fr.mono hlv (Nat.le_refl _),fun f hf=>(hI.wf.stk f hf).mono hlv (Nat.le_refl _),fun c hc=>?_,fun c hc=>?_⟩,hI.fm,hI.lO,?_,fun n b hb=>?_,fun n b hb=>hI.lens n b (zA hb)⟩
 ·rcases List.mem_append.1 hc with h|h
  ·exact bS hlv (Nat.le_refl _) c.c (hI.wf.hp c h)
  ·have:=List.eq_of_mem_replicate h;cases this
 ·rcases List.mem_append.1 hc with h|h
  ·exact bS hlv (Nat.le_refl _) c.c (hI.wf.ln c h)
  ·have:=List.eq_of_mem_replicate h;cases this
 ·show St w0 (aU ρ α 0 (s.hp++List.replicate m none)) (dP a s T) (gZ w0 ρ α 0 (s.hp++List.replicate m none)++ps) W
  rw [fW]
  exact jF hI.st (gq (iW fun n b hb=>.inr ⟨b,zA hb,rfl⟩))
 obtain⟨h1,h2⟩:=hI.rows n b (zA hb)
 exact⟨hlv n h1,h2⟩
theorem aF.dS(hI:aF w0 ps T ρ s a W α){n:Nat}{b:ak}(hn:s.hp[n]?=some (some b))(hk:b.k=.cells):(⟨(α n).b,(ah ρ α b.c).toArray,b.t⟩:Ch)∈aU ρ α 0 s.hp :=
 dk (k:=0) hn (by simp only [ak.ch,hk,Nat.zero_add])
end
def look(kn:List (Nat×List Nat×Value))(i:Nat)(path:List Nat):V:=match kn.find? (fun e=>e.1 == i && e.2.1 == path)with
 | some e=>.k e.2.2
 | none=>.x i path
def norm:Value→V
 | .agg cs=>.a (cs.toList.map .k)
 | .tuple vs=>.t (vs.toList.map .k)
 | .func fn first cap=>.f fn (first.toList.map .k) (cap.toList.map .k)
 | v=>.k v
def yf(kn:List (Nat×List Nat×Value)):Option V→Option V
 | some (.x i path)=>some (look kn i path)
 | v=>v
def S.ev(s:S):Operand→Option V
 | .tmp t=>yf s.kn (s.fr[t]?).join
 | .const v=>some (norm v)
 | .global g=>some (.k (.pointer (some ⟨g,0,none⟩)))
 | .func f=>some (.f (.func f) [] [])
theorem FY(ρ:List Value)(α:Nat→AV)(v:Value):(norm v).den ρ α=v:=by
 have h:∀ l:List Value,ah ρ α (l.map .k)=l:=fun l=>by rw [aE,List.map_map];exact(List.map_congr_left fun x _=>by simp [V.den]).trans (List.map_id l)
 cases v<;>simp [norm,V.den,h]
theorem FX{ρ:List Value}{s:S}(hg:Good ρ s)(α:Nat→AV)(i:Nat)(path:List Nat):(look s.kn i path).den ρ α=(V.x i path).den ρ α:=by
 unfold look
 cases hf:s.kn.find? (fun e=>e.1 == i && e.2.1 == path)with
 | none=>rfl
 | some e =>
  have hm:=List.mem_of_find?_eq_some hf
  have hq:=List.find?_some hf
  simp only [Bool.and_eq_true,beq_iff_eq]at hq
  have:=hg.kn e hm
  rw [hq.1,hq.2]at this
  simp only [V.den]
  rw [← this.2]
theorem ox{ρ:List Value}{s:S}(hg:Good ρ s){α:Nat→AV}{a:Act}(hf:Fm ρ α s.fr a.tmps){x:Operand}{v:V}(h:s.ev x=some v):a.eval x=v.den ρ α:=by
 cases x with
 | tmp t =>
  have h:yf s.kn (s.fr[t]?).join=some v:=h
  have key:∀ u,(s.fr[t]?).join=some u→a.eval (.tmp t)=u.den ρ α:=fun u hu=>by
   have h1:s.fr[t]?=some (some u):=by
    cases hq:s.fr[t]? with
    | none=>rw [hq]at hu;simp at hu
    | some r=>rw [hq]at hu;simp at hu;rw [hu]
   have:=hf.2 t u h1
   simp [Act.eval,Array.getD_eq_getD_getElem?,this]
  unfold yf at h
  split at h
  ·rename_i i path hq
   have:=key _ hq
   rw [this,← FX hg α i path]
   obtain rfl:look s.kn i path=v:=af h
   rfl
  exact key _ h
 | const c =>
  obtain rfl:norm c=v:=by simpa [S.ev]using h
  simp [Act.eval,FY]
 | global g =>
  obtain rfl:V.k _=v:=by simpa [S.ev]using h
  simp [Act.eval,V.den]
 | func f =>
  obtain rfl:V.f _ _ _=v:=by simpa [S.ev]using h
  simp [Act.eval,V.den,ah]
end SX
end Go.Proofs.YtidekfgkpindbaaGreatDoor
namespace Go.Proofs.YtidekfgkpindbaaGreatDoor
open Go Go.RowKit
namespace SX
structure Cx where
 P:Program
 R:(Value→Nat→List Value→Prop)→FuncId→List Arg→Value→Prop
 shp:FuncId→Option Sh
 K:Value→Nat→List Value→Prop
 A:Value→Nat→List Value→Prop:=fun _ _ _=>False
 ali:FuncId→List Nat:=fun _=>[]
 fr:List Nat:=[]
 stc:Bool:=false
 tl:List FuncId:=[]
 cw:FuncId→Option (Nat×Nat):=fun _=>none
 Wr:(Value→Nat→List Value→Prop)→FuncId→List Arg→List (List Value)→Value→Prop:=fun _ _ _ _ _=>False
 cut:List (Nat×Nat×Bool):=[]
 trm:Bool:=false
 arr:Bool:=false
 cp:FuncId→Option Nat:=fun _=>none
 rc:FuncId→Option Bool:=fun _=>none
 bsr:Bool:=false
 bsn:Nat:=0
 nsh:FuncId→Option Sh:=fun _=>none
 Rn:(Value→Nat→List Value→Prop)→FuncId→List Arg→(Value→List Arg→Prop)→Prop:=fun _ _ _ _=>False
 N:List Arg:=[]
 nb:Nat:=0
 del:Bool:=false
 la:Bool:=false
def Cx.plus(C:Cx)(N:List Arg):Cx:={ C with K:=fun s sz xs=>C.K s sz xs∨⟨s,sz,xs⟩∈N,N:=N }
inductive Rw where
 | no
 | own (sz:Nat) (cs:List V)
 | ext (sz:Nat)
 | row (sz:Nat) (cs:List V)
inductive cZ where
 | bin (op:BinOp) (t:TypeId)
 | binb (op:BinOp)
 | not
 | neg
 | len (str:Bool)
 | cap
 | min
 | max
 | conv (k:IntKind)
 | bnd
 | elem (sz o:Nat)
 | elems (sz o n:Nat)
 | call (f:FuncId) (rw:List Rw)
 | callq (f:FuncId) (rw:List Rw)
 | lastq (sz:Nat)
 | callg (f:FuncId) (rw grw:List Rw)
 | callw (f:FuncId) (rw:List Rw) (caps:List (List V))
 | callp (f:FuncId) (rw:List Rw) (t:TypeId)
 | callr (f:FuncId) (rw:List Rw) (sz:Nat) (e:TypeId)
 | calln (f:FuncId) (rw:List Rw) (sz:Nat) (e:TypeId)
 | eqr (neq:Bool) (n:Nat) (l:List CK)
 | slc (str:Bool) (sz:Nat) (lo hi mx:Bool)
 | rlen (sz:Nat)
 | rbnd (sz:Nat)
 | relem (sz o:Nat)
 | relems (sz o n:Nat)
 | rset (sz o:Nat)
 | dN (sz by':Nat) (src:Rw)
 | appx (sz by':Nat) (fr:Bool) (src:Rw)
 | kext (sz:Nat)
 | snil (neq:Bool)
 | slcx (sz:Nat) (lo hi:Bool)
 | mks (z:Value) (sz by':Nat)
 | cpy (sz l:Nat)
 | cpyx (l:Nat)
 | apz (z:Value) (sz by':Nat)
 | s2b
 | cpl
 | tya (ta:TypeId)
 | b2s
 | b2sx
 | aps (by':Nat)
 | mlk (ok:Bool) (kt:TypeId) (k:Nat) (ag:Bool) (z:Value)
 | mset (kt:TypeId) (k:Nat) (ag:Bool)
 | mdel (kt:TypeId) (k:Nat)
 | mln (k:Nat)
 | rcut (up:Bool) (sz:Nat)
 | rdel (sz:Nat)
 | apo (sz by':Nat) (src:Rw)
def aZ(op:BinOp):Value→Value→Option Value
 | .int k i,.int k' j=>match op with
  | .shl=>if j<0 then none else some (.int k (k.wrap (i*2 ^ (min j.toNat k.bits))))
  | .shr=>if j<0 then none else some (.int k (i.fdiv (2 ^ (min j.toNat k.bits))))
  | op=>if k=k' then(match op with
   | .quo=>if j=0 then none else some (.int k (k.wrap (i.tdiv j)))
   | .rem=>if j=0 then none else some (.int k (i.tmod j))
   | .and=>some (.int k (k.wrap (BitVec.ofInt k.bits i&&&BitVec.ofInt k.bits j).toNat))
   | .or=>some (.int k (k.wrap (BitVec.ofInt k.bits i|||BitVec.ofInt k.bits j).toNat))
   | .xor=>some (.int k (k.wrap (BitVec.ofInt k.bits i^^^BitVec.ofInt k.bits j).toNat))
   | op=>om op k i j)else none
 | .string p,.string q=>match op with
  | .eql=>some (.bool (decide (p=q)))
  | .neq=>some (.bool (!decide (p=q)))
  | _=>none
 | _,_=>none
def BR(op:BinOp):Value→Value→Option Value
 | .bool p,.bool q=>match op with
  | .eql=>some (.bool (p == q))
  | .neq=>some (.bool !(p == q))
  | _=>none
 | _,_=>none
def qb(P:Program)(t:TypeId):Bool:=match P.underlying t with
 | some .bool=>true
 | _=>false
theorem Ao{P:Program}{t:TypeId}(h:qb P t=true):P.underlying t=some .bool:=by
 unfold qb at h
 split at h
 ·assumption
 cases h
def DK:Bool→Value→Option Value
 | false,.slice _ n _=>some (.int .i64 n)
 | true,.string s=>some (.int .i64 s.size)
 | _,_=>none
def Jw:Value→Option Value
 | .slice _ _ n=>some (.int .i64 n)
 | _=>none
def Az:Value→Value→Option Value
 | .int k i,.int k' j=>if k=k' then some (.int k (JF i j))else none
 | _,_=>none
def yk:Value→Value→Option Value
 | .int k i,.int k' j=>if k=k' then some (.int k (JE i j))else none
 | _,_=>none
def JL:Value→Option Value
 | .bool b=>some (.bool !b)
 | _=>none
def DR:Value→Option Value
 | .int k i=>some (.int k (k.wrap (-i)))
 | _=>none
def Jd:Value→Option Value
 | .int k i=>some (.int k (k.wrap (BitVec.ofInt k.bits (if k.signed then -1 else k.max)^^^BitVec.ofInt k.bits i).toNat))
 | _=>none
def fF(k:IntKind):Value→Option Value
 | .int _ i=>some (.int k (k.wrap i))
 | _=>none
def iN(y:Nat):Value→Option Nat
 | .int _ i=>if 0≤i∧i≤(y:Int)then some i.toNat else none
 | _=>none
def b7(len cap:Nat)(lo hi mx:Option Value):Option (Nat×Nat×Nat) :=
 (match mx with|some v=>iN cap v|none=>some cap).bind fun m =>
 (match hi,mx with|some v,_=>iN m v|none,none=>some len|none,some _=>none).bind fun h =>
 (match lo with|some v=>iN h v|none=>some 0).bind fun l=>some (l,h,m)
def jC{α:Type}:Bool→Bool→Bool→List α→Option (Option α×Option α×Option α)
 | false,false,false,[]=>some (none,none,none)
 | true,false,false,[a]=>some (some a,none,none)
 | false,true,false,[b]=>some (none,some b,none)
 | true,true,false,[a,b]=>some (some a,some b,none)
 | false,true,true,[b,c]=>some (none,some b,some c)
 | true,true,true,[a,b,c]=>some (some a,some b,some c)
 | _,_,_,_=>none
def oM(str:Bool)(sz:Nat)(lo hi mx:Bool):List Value→Option Value
 | x::bs=>(jC lo hi mx bs).bind fun(l,h,m)=>match str,x with
  | false,.slice a len cap=>(b7 len cap l h m).map fun(l,h,m)=>.slice (if m=l then a else a.map (·.add (l*sz))) (h-l) (m-l)
  | true,.string s=>if m.isSome then none else(b7 s.size s.size l h none).map fun(l,h,_)=>.string (s.extract l h)
  | _,_=>none
 | []=>none
def Mq:Value→Value→Prop
 | .slice (some _) n _,.int _ i=>0≤i∧i<n
 | _,_=>False
def idxOf:Value→Nat
 | .int _ i=>i.toNat
 | _=>0
def Nq:Value→Bool
 | .slice _ _ _=>true
 | _=>false
mutual
def Sh.exp(i:Nat):Sh→List Nat→V
 | .one,path=>.x i path
 | .any,path=>.x i path
 | .ag n,path=>.a ((List.range n).map fun j=>.x i (path++[j]))
 | .tp l,path=>.t (Sh.Dz i l path 0)
 | .sl _,path=>.x i path
 | .agl l,path=>.a (Sh.Dz i l path 0)
def Sh.Dz(i:Nat):List Sh→List Nat→Nat→List V
 | [],_,_=>[]
 | s::l,path,j=>s.exp i (path++[j])::Sh.Dz i l path (j+1)
end
mutual
def Sh.qM(nm i:Nat):Sh→List Nat→V
 | .one,path=>.x i path
 | .any,path=>.x i path
 | .ag n,path=>.a ((List.range n).map fun j=>.x i (path++[j]))
 | .tp l,path=>.t (Sh.tR nm i l path 0)
 | .sl _,_=>.row nm
 | .agl l,path=>.a (Sh.tR nm i l path 0)
def Sh.tR(nm i:Nat):List Sh→List Nat→Nat→List V
 | [],_,_=>[]
 | s::l,path,j=>s.qM nm i (path++[j])::Sh.tR nm i l path (j+1)
end
mutual
def Sh.ti:Sh→List Nat→List (List Nat×Nat)
 | .sl sz,path=>[(path,sz)]
 | .tp l,path=>Sh.Bv l path 0
 | .agl l,path=>Sh.Bv l path 0
 | _,_=>[]
def Sh.Bv:List Sh→List Nat→Nat→List (List Nat×Nat)
 | [],_,_=>[]
 | s::l,path,j=>s.ti (path++[j])++Sh.Bv l path (j+1)
end
mutual
def Sh.fill(h:Value):Sh→Value→Value
 | .sl _,_=>h
 | .tp l,.tuple vs=>.tuple (Sh.ml h l vs.toList).toArray
 | .agl l,.agg vs=>.agg (Sh.ml h l vs.toList).toArray
 | _,v=>v
def Sh.ml(h:Value):List Sh→List Value→List Value
 | s::l,v::vs=>s.fill h v::Sh.ml h l vs
 | _,vs=>vs
end
def bT(C:Cx)(ρ:List Value)(α:Nat→AV):List Rw→List V→List Arg→Prop
 | [],[],[]=>True
 | .no::r,v::vs,x::xs=>x=⟨v.den ρ α,0,[]⟩∧Nq (v.den ρ α)=false∧bT C ρ α r vs xs
 | .own sz cs::r,v::vs,x::xs=>x=⟨v.den ρ α,sz,ah ρ α cs⟩∧bT C ρ α r vs xs
 | .ext sz::r,v::vs,x::xs=>x.v=v.den ρ α∧x.sz=sz∧C.K (v.den ρ α) sz x.cells∧bT C ρ α r vs xs
 | .row sz cs::r,v::vs,x::xs=>x=⟨v.den ρ α,sz,(ah ρ α cs).flatMap ae⟩∧bT C ρ α r vs xs
 | _,_,_=>False
def jl(len sz:Nat):Value→Prop
 | .int _ i=>0≤i∧i<((len / sz:Nat):Int)
 | _=>False
def zc(x:Arg):Prop:=∀ u∈x.cells,u.oneCell'=true
def ve(C:Cx)(f:FuncId)(rw:List Rw)(as':List Arg):Prop:=∀ j∈C.ali f,∀ x sz,as'[j]?=some x→rw[j]?=some (.ext sz)→C.A x.v x.sz x.cells
def xh(C:Cx)(f:FuncId)(as':List Arg)(cells:List Value)(t:TypeId)(v:Value):Prop:=∀ (W:World) (b:Nat),(∀ x∈as',∀ W',bp [b] W W'→x.rd W')→(∀ s sz cells,C.K s sz cells→∀ W',bp [b] W W'→Arg.rd W' ⟨s,sz,cells⟩)→W.heap[b]?=some (.cells cells.toArray t (0,0)) →
 Calls C.P f (Value.pointer (some ⟨b,0,none⟩)::as'.map Arg.v).toArray W fun e W'=>e=.returned (.tuple #[])∧W'.os=W.os∧W'.tape=W.tape∧W'.output=W.output∧bp [b] W W'∧W'.heap[b]?=some (.cells (ae v).toArray t (0,0))
def Rw.Gr:Rw→Bool
 | .own _ _=>true
 | _=>false
def zt(W:World)(x:Arg):Prop:=∀ ad n c,x.v=.slice (some ad) n c→∃ cs t,W.heap[ad.block]?=some (.cells cs t (0,0))
def mY(C:Cx)(f:FuncId)(rw:List Rw)(as':List Arg)(b5:List Value)(sz:Nat)(t:TypeId)(v:Value):Prop:=∀ (W:World) (h:Value) (b:Nat) (tl:List Value),iP sz h b t b5 tl W→(∀ x∈as',∀ W',bp (iA h) W W'→x.rd W')→(∀ s sz cells,C.K s sz cells→∀ W',bp (iA h) W W'→Arg.rd W' ⟨s,sz,cells⟩)→(∀ p∈rw.zip as',p.1.Gr=true→zt W p.2) →
 Calls C.P f (h::as'.map Arg.v).toArray W fun e W'=>∃ h' b' tl',e=.returned h'∧W'.os=W.os∧W'.tape=W.tape∧W'.output=W.output∧bp (iA h) W W'∧iP sz h' b' t (ae v) tl' W'∧(b'∈iA h∨W.heap.size≤b')
def Fw(C:Cx)(f:FuncId)(rw:List Rw)(as':List Arg)(sz:Nat)(t:TypeId)(v:Value):Prop:=∀ (W:World),(∀ x∈as',∀ W',bp [] W W'→x.rd W')→(∀ s sz cells,C.K s sz cells→∀ W',bp [] W W'→Arg.rd W' ⟨s,sz,cells⟩)→(∀ p∈rw.zip as',p.1.Gr=true→zt W p.2) →
 Calls C.P f (as'.map Arg.v).toArray W fun e W'=>∃ h' b' tl',e=.returned h'∧Below W.heap.size W W'∧iP sz h' b' t (ae v) tl' W'∧W.heap.size≤b'
def cZ.rel(C:Cx)(ρ:List Value)(α:Nat→AV):cZ→List V→Value→Prop
 | .bin op _,[x,y],v=>aZ op (x.den ρ α) (y.den ρ α)=some v
 | .binb op,[x,y],v=>BR op (x.den ρ α) (y.den ρ α)=some v
 | .not,[x],v=>JL (x.den ρ α)=some v
 | .neg,[x],v=>DR (x.den ρ α)=some v
 | .cpl,[x],v=>Jd (x.den ρ α)=some v
 | .tya ta,[x],v=>∃ t c z,x.den ρ α=.iface t c∧zeroOf C.P ta=some z∧v=.tuple #[if t=ta then c else z,.bool (decide (t=ta))]
 | .len b,[x],v=>DK b (x.den ρ α)=some v
 | .cap,[x],v=>Jw (x.den ρ α)=some v
 | .min,[x,y],v=>Az (x.den ρ α) (y.den ρ α)=some v
 | .max,[x,y],v=>yk (x.den ρ α) (y.den ρ α)=some v
 | .conv k,[x],v=>fF k (x.den ρ α)=some v
 | .bnd,[s,i],v=>Mq (s.den ρ α) (i.den ρ α)∧v=.bool true
 | .elem sz o,[s,i],v=>Mq (s.den ρ α) (i.den ρ α)∧∃ cells,C.K (s.den ρ α) sz cells∧cells[idxOf (i.den ρ α)*sz+o]?=some v
 | .elems sz o n,[s,i],v=>Mq (s.den ρ α) (i.den ρ α)∧∃ cells,C.K (s.den ρ α) sz cells∧idxOf (i.den ρ α)*sz+o+n≤cells.length∧v=.agg ((cells.drop (idxOf (i.den ρ α)*sz+o)).take n).toArray
 | .rlen sz,[c],v=>v=.int .i64 ((ae (c.den ρ α)).length / sz:Nat)
 | .rbnd sz,[c,i],v=>jl (ae (c.den ρ α)).length sz (i.den ρ α)∧v=.bool true
 | .relem sz o,[c,i],v=>jl (ae (c.den ρ α)).length sz (i.den ρ α)∧(ae (c.den ρ α))[idxOf (i.den ρ α)*sz+o]?=some v
 | .relems sz o n,[c,i],v=>jl (ae (c.den ρ α)).length sz (i.den ρ α)∧idxOf (i.den ρ α)*sz+o+n≤(ae (c.den ρ α)).length∧v=.agg ((ae (c.den ρ α)).drop (idxOf (i.den ρ α)*sz+o) |>.take n).toArray
 | .rset sz o,c::i::vs,v=>jl (ae (c.den ρ α)).length sz (i.den ρ α)∧o+vs.length≤sz∧v=.agg ((ae (c.den ρ α)).take (idxOf (i.den ρ α)*sz+o)++ah ρ α vs++(ae (c.den ρ α)).drop (idxOf (i.den ρ α)*sz+o+vs.length)).toArray
 | .dN sz by' src,[c,y],v=>∃ x,bT C ρ α [src] [y] [x]∧x.sz=sz∧zc x∧((ae (c.den ρ α)).length+x.cells.length) / sz*by'≤140737488355328∧((ae (c.den ρ α)).length+x.cells.length) / sz≤140737488355328∧v=.agg x.cells.toArray
 | .slc str sz lo hi mx,vs,v=>oM str sz lo hi mx (ah ρ α vs)=some v
 | .call f rw,vs,v=>∃ as',bT C ρ α rw vs as'∧C.R C.K f as' v∧ve C f rw as'
 | .callg f rw grw,vs,v=>∃ as' gs,bT C ρ α rw (vs.take rw.length) as'∧bT C ρ α grw (vs.drop rw.length) gs∧C.R (fun s sz cells=>C.K s sz cells∨(⟨s,sz,cells⟩:Arg)∈gs) f as' v∧ve C f rw as'
 | .callp f rw t,vs,v=>∃ as',bT C ρ α rw (vs.take rw.length) as'∧xh C f as' (ah ρ α (vs.drop rw.length)) t v
 | .callr f rw sz e,c::vs,v=>∃ as',bT C ρ α rw vs as'∧mY C f rw as' (ae (c.den ρ α)) sz e v
 | .calln f rw sz e,vs,v=>∃ as',bT C ρ α rw vs as'∧Fw C f rw as' sz e v
 | .callw f rw caps,vs,v=>∃ as',bT C ρ α rw (vs.take rw.length) as'∧C.Wr C.K f as' (caps.map (ah ρ α)) v
 | .appx sz by' fr src,[x,y],v=>∃ cells xa A n,x.den ρ α=.slice A n n∧C.K (x.den ρ α) sz cells∧(fr=false→C.A (x.den ρ α) sz cells)∧(∀ u∈cells,u.oneCell'=true)∧bT C ρ α [src] [y] [xa]∧xa.sz=sz∧zc xa∧(fr=true→xa.cells≠[])∧(cells.length+xa.cells.length) / sz*by'≤140737488355328∧(cells.length+xa.cells.length) / sz≤140737488355328∧v=.agg (cells++xa.cells).toArray
 | .apo sz by' src,[c,y],v=>∃ x,bT C ρ α [src] [y] [x]∧x.sz=sz∧zc x∧x.cells≠[]∧(∀ u∈ae (c.den ρ α),u.oneCell'=true)∧((ae (c.den ρ α)).length+x.cells.length) / sz*by'≤140737488355328∧((ae (c.den ρ α)).length+x.cells.length) / sz≤140737488355328∧v=.agg (ae (c.den ρ α)++x.cells).toArray
 | .snil neq,[x],v=>∃ A n c,x.den ρ α=.slice A n c∧v=.bool (neq ^^ A.isNone)
 | .kext sz,[x],v=>∃ cells,(∃ A n c,x.den ρ α=.slice A n c∧n≤c)∧C.K (x.den ρ α) sz cells∧C.A (x.den ρ α) sz cells∧v=.agg cells.toArray
 | .slcx sz lo hi,c::bs,v=>∃ l h m lo' hi',jC lo hi false (ah ρ α bs)=some (lo',hi',none)∧b7 ((ae (c.den ρ α)).length / sz) ((ae (c.den ρ α)).length / sz) lo' hi' none=some (l,h,m)∧v=.agg (((ae (c.den ρ α)).drop (l*sz)).take ((h-l)*sz)).toArray
 | .mks z sz by',[x,y],v=>∃ kl kc L M,x.den ρ α=.int kl L∧y.den ρ α=.int kc M∧0≤L∧L≤M∧M≤140737488355328∧(by':Int)*M≤281474976710656∧v=.agg (madeCells z.cells (L.toNat*sz))
 | .cpy sz l,[c,y],v=>∃ cells A k cap,C.K (y.den ρ α) sz cells∧y.den ρ α=.slice A k cap∧(∀ u∈cells,u.oneCell'=true)∧v=.tuple #[.int .i64 ((Nat.min k l:Nat):Int),.agg (cells.take (l*sz)++(ae (c.den ρ α)).drop (Nat.min k l*sz)).toArray]
 | .apz z sz by',[y],v=>∃ k L,y.den ρ α=.int k L∧0<L∧L≤70368744177664∧L*(by':Int)≤140737488355328∧v=.agg (madeCells z.cells (L.toNat*sz))
 | .cpyx l,[c,y],v=>(∀ u∈ae (y.den ρ α),u.oneCell'=true)∧v=.tuple #[.int .i64 ((Nat.min (ae (y.den ρ α)).length l:Nat):Int),.agg ((ae (y.den ρ α)).take l++(ae (c.den ρ α)).drop (Nat.min (ae (y.den ρ α)).length l)).toArray]
 | .mlk ok kt k ag z,[c,x],v=>∃ nx l,xe C.P kt k (ae (c.den ρ α)) (x.den ρ α) nx l∧(((∀ q∈l,q.key≠x.den ρ α)∧v=if ok then .tuple #[z,.bool false]else z)∨∃ q∈l,q.key=x.den ρ α∧v=if ok then .tuple #[tP ag q.cs,.bool true]else tP ag q.cs)
 | .mset kt k ag,c::x::vs,v=>∃ nx l,xe C.P kt k (ae (c.den ρ α)) (x.den ρ α) nx l∧(((∀ q∈l,q.key≠x.den ρ α)∧v=.agg (bV (nx+1) (l++[⟨x.den ρ α,ah ρ α vs,nx⟩])).toArray)∨∃ j q,l[j]?=some q∧q.key=x.den ρ α∧v=.agg (bV nx (l.set j ⟨x.den ρ α,ah ρ α vs,q.born⟩)).toArray)
 | .mdel kt k,[c,x],v=>∃ nx l,xe C.P kt k (ae (c.den ρ α)) (x.den ρ α) nx l∧(((∀ q∈l,q.key≠x.den ρ α)∧v=.agg (bV nx l).toArray)∨∃ j q,l[j]?=some q∧q.key=x.den ρ α∧v=.agg (bV nx (l.eraseIdx j)).toArray)
 | .mln k,[c],v=>∃ nx l,ae (c.den ρ α)=bV nx l∧(∀ e∈l,e.cs.length=k)∧v=.int .i64 ((l.length:Nat):Int)
 | .rcut up sz,[c,i],_=>∃ k:Nat,i.den ρ α=.int .i64 (k:Int)∧k*sz≤(ae (c.den ρ α)).length
 | .rdel sz,[c,i,j],v=>∃ k:Nat,i.den ρ α=.int .i64 (k:Int)∧j.den ρ α=.int .i64 ((k+1:Nat):Int)∧(k+1)*sz≤(ae (c.den ρ α)).length∧(∀ u∈ae (c.den ρ α),u.oneCell'=true)∧v=.agg ((ae (c.den ρ α)).take (k*sz)++(ae (c.den ρ α)).drop ((k+1)*sz)).toArray
 | .b2s,[c],v=>∃ l:List UInt8,ae (c.den ρ α)=l.map (fun b=>Value.int .u8 (b.toNat:Int))∧v=.string ⟨l.toArray⟩
 | .b2sx,[x],v=>∃ (l:List UInt8) (A:Option Addr) (n c:Nat),C.K (x.den ρ α) 1 (l.map fun b=>Value.int .u8 (b.toNat:Int))∧x.den ρ α=.slice A n c∧v=.string ⟨l.toArray⟩
 | .aps by',[c,y],v=>∃ b:ByteArray,y.den ρ α=.string b∧((ae (c.den ρ α)).length+b.size)*by'≤140737488355328∧(ae (c.den ρ α)).length+b.size≤140737488355328∧v=.agg (b.data.toList.map fun x=>Value.int .u8 (x.toNat:Int)).toArray
 | .s2b,[x],v=>∃ b:ByteArray,x.den ρ α=.string b∧v=.agg (b.data.toList.map fun x=>Value.int .u8 (x.toNat:Int)).toArray
 | .eqr neq n l,vs,v=>∃ b:Bool,(b=true↔ah ρ α (vs.take n)=ah ρ α (vs.drop n))∧fits l (ah ρ α (vs.take n))=true∧fits l (ah ρ α (vs.drop n))=true∧v=.bool (neq ^^ b)
 | _,_,_=>False
inductive Pl where
 | ef (v:V) (new:Option ak) (wr:Option (Nat×ak))
 | df (q:cZ) (args:List V) (sh:Sh) (mk:Option V) (new:Option ak) (wr:Option (Nat×ak))
 | br (i:Nat) (path:List Nat)
 | sp (i:Nat) (path:List Nat) (n:Nat)
 | no
def vS:V→List Nat
 | .p n _=>[n]
 | .sl n _ _ _=>[n]
 | .row n=>[n]
 | .ep (.row n) _ _ _=>[n]
 | .ep (.sl n _ _ _) _ _ _=>[n]
 | .mapV n=>[n]
 | .pt (.row n) _ _ _=>[n]
 | _=>[]
def eu(vs:List V):List Nat:=vs.flatMap vS
def cK(hp:List (Option ak))(vs:List V):List (Nat×Option ak):=(eu vs).map fun n=>(n,(hp[n]?).join)
def jS(bs:List (Nat×Option ak))(n:Nat):Option ak:=(bs.find? fun e=>e.1 == n).bind (·.2)
def jT(b:ak):Option ak:=match b.k with
 | .cells=>some b
 | _=>none
def ku(bs:List (Nat×Option ak))(n:Nat):Option ak:=(jS bs n).bind jT
def NJ(b:ak):Option ak:=match b.k with
 | .cells=>some b
 | .froz=>some b
 | _=>none
def G6(bs:List (Nat×Option ak))(n:Nat):Option ak:=(jS bs n).bind NJ
def B4(bs:List (Nat×Option ak))(n:Nat):Bool:=match jS bs n with
 | some b=>decide (b.k=.froz)
 | none=>false
def NQ(b:ak):Option (List V×TypeId×Nat):=match b.k with
 | .row sz=>some (b.c,b.t,sz)
 | _=>none
def P1(b:ak):Option (List V×TypeId×Nat):=match b.k with
 | .row sz=>some (b.c,b.t,sz)
 | .ext sz=>some (b.c,b.t,sz)
 | _=>none
def kX(bs:List (Nat×Option ak))(n:Nat):Option (List V×TypeId×Nat):=(jS bs n).bind P1
def Nk(b:ak):Option (List V×Nat):=match b.k with
 | .ext sz=>some (b.c,sz)
 | _=>none
def vE(bs:List (Nat×Option ak))(n:Nat):Option (List V×Nat):=(jS bs n).bind Nk
def k6(bs:List (Nat×Option ak))(n:Nat):Option (List V×TypeId×Nat):=(jS bs n).bind NQ
theorem eJ{hp:List (Option ak)}{vs:List V}{n:Nat}{b:ak}(h:jS (cK hp vs) n=some b):hp[n]?=some (some b):=by
 unfold jS cK at h
 generalize eu vs=l at h
 induction l with
 | nil=>simp at h
 | cons m l ih =>
  simp only [List.map_cons,List.find?_cons]at h
  split at h
  ·rename_i hm
   have hm':m=n:=af hm
   subst hm'
   cases hq:hp[m]? with
   | none=>simp [hq]at h
   | some o=>simp [hq]at h;rw [h]
  exact ih h
theorem dp{hp:List (Option ak)}{vs:List V}{n:Nat}{b:ak}(h:ku (cK hp vs) n=some b):hp[n]?=some (some b)∧b.k=.cells:=by
 obtain⟨b',h1,h2⟩:=Option.bind_eq_some_iff.1 h
 unfold jT at h2
 split at h2
 ·rename_i hk
  obtain rfl:b'=b:=af h2
  exact⟨eJ h1,hk⟩
 cases h2
theorem gF{hp:List (Option ak)}{vs:List V}{n:Nat}{b:ak}(h:G6 (cK hp vs) n=some b):hp[n]?=some (some b)∧(b.k=.cells∨b.k=.froz):=by
 obtain⟨b',h1,h2⟩:=Option.bind_eq_some_iff.1 h
 unfold NJ at h2
 split at h2
 ·rename_i hk
  obtain rfl:b'=b:=af h2
  exact⟨eJ h1,.inl hk⟩
 ·rename_i hk
  obtain rfl:b'=b:=af h2
  exact⟨eJ h1,.inr hk⟩
 cases h2
theorem Gc{hp:List (Option ak)}{vs:List V}{n:Nat}(h:B4 (cK hp vs) n=true):∃ b,hp[n]?=some (some b)∧b.k=.froz:=by
 unfold B4 at h
 split at h
 ·rename_i b hb
  exact⟨b,eJ hb,af h⟩
 cases h
theorem gm{hp:List (Option ak)}{vs:List V}{n sz:Nat}{c:List V}{e:TypeId}(h:k6 (cK hp vs) n=some (c,e,sz)):hp[n]?=some (some ⟨c,e,.row sz⟩):=by
 obtain⟨b',h1,h2⟩:=Option.bind_eq_some_iff.1 h
 unfold NQ at h2
 split at h2
 ·rename_i hk
  obtain⟨b1,b2,b3⟩:=b'
  simp only [Option.some.injEq,Prod.mk.injEq]at h2 hk
  obtain⟨rfl,rfl,rfl⟩:=h2
  subst hk
  exact eJ h1
 cases h2
theorem ee{hp:List (Option ak)}{vs:List V}{n sz:Nat}{c:List V}{e:TypeId}(h:kX (cK hp vs) n=some (c,e,sz)):∃ k,hp[n]?=some (some ⟨c,e,k⟩)∧(k=.row sz∨k=.ext sz):=by
 obtain⟨b',h1,h2⟩:=Option.bind_eq_some_iff.1 h
 unfold P1 at h2
 split at h2
 ·rename_i hk
  obtain⟨b1,b2,b3⟩:=b'
  simp only [Option.some.injEq,Prod.mk.injEq]at h2 hk
  obtain⟨rfl,rfl,rfl⟩:=h2
  exact⟨b3,eJ h1,.inl hk⟩
 ·rename_i hk
  obtain⟨b1,b2,b3⟩:=b'
  simp only [Option.some.injEq,Prod.mk.injEq]at h2 hk
  obtain⟨rfl,rfl,rfl⟩:=h2
  exact⟨b3,eJ h1,.inr hk⟩
 cases h2
theorem tS{hp:List (Option ak)}{vs:List V}{n sz:Nat}{c:List V}(h:vE (cK hp vs) n=some (c,sz)):∃ t,hp[n]?=some (some ⟨c,t,.ext sz⟩):=by
 obtain⟨b',h1,h2⟩:=Option.bind_eq_some_iff.1 h
 unfold Nk at h2
 split at h2
 ·rename_i hk
  obtain⟨b1,b2,b3⟩:=b'
  simp only [Option.some.injEq,Prod.mk.injEq]at h2 hk
  obtain⟨rfl,rfl⟩:=h2
  subst hk
  exact⟨b2,eJ h1⟩
 cases h2
def eh(P:Program)(t:TypeId):Option TypeId:=match P.underlying t with
 | some (.slice e)=>some e
 | _=>none
theorem aV{P:Program}{t e:TypeId}(h:eh P t=some e):P.underlying t=some (.slice e):=by
 unfold eh at h
 split at h
 ·rename_i hu
  simp only [Option.some.injEq]at h
  rw [hu,h]
 cases h
def s7(P:Program)(t:TypeId):Option Bool:=match P.underlying t with
 | some .string=>some true
 | some (.slice _)=>some false
 | _=>none
def V.one(sh:List Sh):V→Bool
 | .k v=>v.oneCell'
 | .x i path=>match sh[i]? with
  | some s=>s.leaf path
  | none=>false
 | .a _=>false
 | .t _=>false
 | .row _=>false
 | .cat _=>false
 | .pt _ _ _ _=>false
 | _=>true
def V.cells:V→List V
 | .a cs=>cs
 | v=>[v]
def V.tX:V→Bool
 | .a _=>true
 | _=>false
def pN(sh:List Sh)(cs:List V):Bool:=cs.all (V.one sh)
def V.JN(bs:List (Nat×Option ak))(sh:List Sh)(v:V):Bool:=v.one sh || (match v with
 | .row m=>(kX bs m).isSome
 | _=>false)
def wU(bs:List (Nat×Option ak))(sh:List Sh)(cs:List V):Bool:=cs.all (V.JN bs sh)
def enters(P:Program)(f:FuncId):Bool:=match P.funcs[f]? with
 | some fn=>!(fn.name == "runtime.NumGoroutine") && fn.body.isSome
 | none=>false
def ew(P:Program)(bs:List (Nat×Option ak)):List TypeId→List V→Option (List Rw)
 | [],[]=>some []
 | t::ts,v::vs=>(match v,eh P t with
  | .sl n o l cc,some e=>match aT P e,G6 bs n with
   | some sz,some b=>if o+l*sz≤b.c.length∧l≤cc then some (Rw.own sz ((b.c.drop o).take (l*sz)))else none
   | _,_=>none
  | .k (.slice none 0 _),some e=>match aT P e with
   | some sz=>some (Rw.own sz [])
   | none=>none
  | .x _ _,some e=>match aT P e with
   | some sz=>some (Rw.ext sz)
   | none=>none
  | .row n,some _=>(kX bs n).map fun(r:List V×TypeId×Nat)=>Rw.row r.2.2 r.1
  | .row _,none=>none
  | .sl _ _ _ _,none=>none
  | _,some _=>none
  | _,none=>some Rw.no).bind fun r=>(ew P bs ts vs).map (r::·)
 | _,_=>none
def qX:List V→Option (List Value)
 | []=>some []
 | .k v::l=>(qX l).map (v::·)
 | _=>none
def H8(q:cZ)(f:Value→Option Value):V→Pl
 | .k c=>match f c with
  | some v=>if v.oneCell' then .ef (.k v) none none else .no
  | none=>.no
 | x=>.df q [x] .one none none none
def IU(q:cZ)(f:Value→Value→Option Value):V→V→Pl
 | .k c,.k d=>match f c d with
  | some v=>if v.oneCell' then .ef (.k v) none none else .no
  | none=>.no
 | x,y=>.df q [x,y] .one none none none
def cl(c:List V)(off:Nat)(cs:List V):List V:=c.take off++cs++c.drop (off+cs.length)
def xR(place:Nat→Option (Nat×Nat)):List V→List (Nat×V)→Option (List V)
 | c,[]=>some c
 | c,(i,v)::r=>match place i with
  | some (off,sz)=>if v.cells.length=sz∧off+sz≤c.length then xR place (cl c off v.cells) r else none
  | none=>none
def placeOf(P:Program)(t:TypeId):Option (Nat→Option (Nat×Nat)):=match P.underlying t with
 | some (.struct _)=>(rA P t).map fun ps=>fun i=>ps[i]?
 | some (.array _ e)=>(aT P e).map fun sz=>fun i=>some (i*sz,sz)
 | _=>none
def ft(bs:List (Nat×Option ak))(s i:V)(sz o:Nat):Pl:=match s with
 | .row n=>match kX bs n with
  | some (c,_,sz')=>if sz'=sz then .df (.rbnd sz) [.cat c,i] .one (some (.ep s i sz o)) none none else .no
  | none=>.no
 | s=>.df .bnd [s,i] .one (some (.ep s i sz o)) none none
def tU:List V→Option (List V)
 | []=>some []
 | .a cs::l=>(tU l).map (cs++·)
 | _=>none
def E7(c:List V)(sz o:Nat)(i:V)(k:Nat):Option (List V×Nat):=match i with
 | .k (.int _ j)=>(tU c).bind fun ds=>if 0≤j∧o+k≤sz∧0<k∧(j.toNat+1)*sz≤ds.length then some (ds,j.toNat*sz+o)else none
 | _=>none
def Cm(b:Bool)(n:Nat)(ds:List V)(p:Nat):Pl:=if b then .ef (.a ((ds.drop p).take n)) none none else match ds[p]? with
 | some v=>.ef v none none
 | none=>.no
def Io(b:Bool)(m:Nat):Rw→V
 | .own _ cs=>if b then .a cs else .x m []
 | _=>.x m []
def j9(bs:List (Nat×Option ak))(b:Bool)(n:Nat)(s i:V)(sz o:Nat):Pl:=match s with
 | .row m=>match kX bs m with
  | some (c,_,sz')=>if sz'=sz then match E7 c sz o i n with
   | some (ds,p)=>Cm b n ds p
   | none=>(if b then .df (.relems sz o n) [.cat c,i] (.ag n) none none none else .df (.relem sz o) [.cat c,i] .one none none none)else .no
  | none=>.no
 | s=>if b then .df (.elems sz o n) [s,i] (.ag n) none none none else .df (.elem sz o) [s,i] .one none none none
def BM(P:Program)(bs:List (Nat×Option ak))(e:TypeId)(sz:Nat):V→Option (List V×Option Nat)
 | .k (.slice none 0 0)=>some ([],none)
 | .row n=>match k6 bs n with
  | some (c,e',sz')=>if e'=e∧sz'=sz then some (c,some n)else none
  | none=>none
 | _=>none
def kU(C:Cx)(bs:List (Nat×Option ak))(nm m:Nat)(fr:Bool)(t:TypeId)(x y:V):Pl:=match eh C.P t with
 | some e=>match aT C.P e,bytesOf C.P e,zeroOf C.P e with
  | some sz,some by',some z=>match ew C.P bs [t] [y]with
   | some [src]=>if 0<sz∧z.cells.size=sz∧by'≤1000000 then .df (.appx sz by' fr src) [x,y] .any (some (.row nm)) (some ⟨[.x m []],e,if fr then .row sz else .ext sz⟩) none else .no
   | _=>.no
  | _,_,_=>.no
 | none=>.no
def kT(C:Cx)(bs:List (Nat×Option ak))(nm m:Nat)(t:TypeId)(x y:V):Pl:=match eh C.P t with
 | some e=>match aT C.P e,bytesOf C.P e,zeroOf C.P e with
  | some sz,some by',some z=>match BM C.P bs e sz x,ew C.P bs [t] [y]with
   | some (c,b5),some [src]=>if 0<sz∧z.cells.size=sz∧by'≤1000000 then .df (.dN sz by' src) [.cat c,y] .any (some (.row nm)) (some ⟨c++[Io C.stc m src],e,.row sz⟩) (b5.map fun n=>(n,bH))else .no
   | _,_=>.no
  | _,_,_=>.no
 | none=>.no
def rG(C:Cx)(t:TypeId)(lo hi mx:Bool)(x:V)(bs:List V):Pl:=match x with
 | .p n o=>match gO C.P t with
  | some (len,e)=>match aT C.P e,(qX bs).bind (jC lo hi mx)with
   | some sz,some (l,h,m)=>match b7 len len l h m with
    | some (l,h,m)=>.ef (.sl n (if m=l then o else o+l*sz) (h-l) (m-l)) none none
    | none=>.no
   | _,_=>.no
  | none=>.no
 | .sl n o len cap=>match eh C.P t with
  | some e=>match aT C.P e,(qX bs).bind (jC lo hi mx)with
   | some sz,some (l,h,m)=>match b7 len cap l h m with
    | some (l,h,m)=>.ef (.sl n (if m=l then o else o+l*sz) (h-l) (m-l)) none none
    | none=>.no
   | _,_=>.no
  | none=>.no
 | x=>match s7 C.P t with
  | some true=>.df (.slc true 1 lo hi mx) (x::bs) .one none none none
  | some false=>match (eh C.P t).bind (aT C.P)with
   | some sz=>.df (.slc false sz lo hi mx) (x::bs) .one none none none
   | none=>.no
  | none=>.no
def oG(C:Cx)(bs:List (Nat×Option ak))(nm m:Nat)(t:TypeId)(lo hi mx:Bool)(n:Nat)(args:List V):Pl:=match vE bs n with
 | some (c,sz)=>if mx=false∧(eh C.P t).bind (aT C.P)=some sz then .df (.slcx sz lo hi) (.cat c::args) .any (some (.row nm)) (some ⟨[.x m []],0,.ext sz⟩) none else .no
 | none=>.no
def MF(bs:List (Nat×Option ak))(l:List Nat)(args:List V):Bool:=l.all fun j=>match args[j]? with
 | some (.x _ _)=>true
 | some (.row n)=>(vE bs n).isSome
 | some (.k (.slice none 0 _))=>true
 | some (.sl n _ _ _)=>B4 bs n
 | _=>false
def V.B9:V→Bool
 | .sl _ _ _ _=>true
 | .row _=>true
 | _=>false
def GK(bs:List (Nat×Option ak)):List V→List V
 | []=>[]
 | v::l=>(match v with
  | .a cs=>cs.filter V.B9
  | .sl n _ _ _=>match ku bs n with
   | some b=>b.c.filter V.B9
   | none=>[]
  | _=>[])++GK bs l
def QA(P:Program)(t:TypeId):Option Nat:=match gO P t with
 | some (_,e)=>aT P e
 | none=>aT P t
def Ge(P:Program)(bs:List (Nat×Option ak)):List V→Option (List Rw)
 | []=>some []
 | v::l=>(match v with
  | .sl n o len cc=>match G6 bs n with
   | some b=>match QA P b.t with
    | some sz=>if o+len*sz≤b.c.length∧len≤cc then some (Rw.own sz ((b.c.drop o).take (len*sz)))else none
    | none=>none
   | none=>none
  | .row n=>(kX bs n).map fun(r:List V×TypeId×Nat)=>Rw.row r.2.2 r.1
  | _=>none).bind fun r=>(Ge P bs l).map (r::·)
def K0(C:Cx)(bs:List (Nat×Option ak))(g:FuncId)(rw:List Rw)(args:List V):cZ×List V:=match Ge C.P bs (GK bs args)with
 | some (r::grw)=>(.callg g rw (r::grw),args++GK bs args)
 | _=>(.call g rw,args)
def mN(C:Cx)(bs:List (Nat×Option ak))(nm m:Nat)(g:FuncId)(ts:List TypeId)(args:List V):Pl:=match C.shp g,ew C.P bs ts args,enters C.P g with
 | some sh,some rw,true=>match sh.ti []with
  | []=>.df (K0 C bs g rw args).1 (K0 C bs g rw args).2 sh none none none
  | [(p,sz)]=>if 0<sz∧MF bs (C.ali g) args=true then .df (K0 C bs g rw args).1 (K0 C bs g rw args).2 sh (some (sh.qM nm m [])) (some ⟨[.x m p],0,.ext sz⟩) none else .no
  | _=>.no
 | _,_,_=>.no
def ri(C:Cx)(bs:List (Nat×Option ak))(op:Op)(vs:List V):Option (FuncId×List Rw×List V×Sh):=match op,vs with
 | .call c,.f (.func g) [] []::args=>match c.callee,C.nsh g,ew C.P bs c.argTypes.toList args,enters C.P g with
  | .value _,some sh,some rw,true=>if(sh.ti []).isEmpty=true then some (g,rw,args,sh)else none
  | _,_,_,_=>none
 | _,_=>none
def qD(bs:List (Nat×Option ak)):List V→Option (List (Nat×ak))
 | []=>some []
 | .p n 0::l=>match ku bs n with
  | some b=>(qD bs l).map ((n,b)::·)
  | none=>none
 | _::_=>none
def kV(C:Cx)(bs:List (Nat×Option ak))(nm m:Nat)(g:FuncId)(ts:List TypeId)(args cap:List V):Pl:=match C.cw g,ew C.P bs ts args,qD bs cap,enters C.P g with
 | some (j,sz),some rw,some cs,true=>match cs[j]? with
  | some (n,b)=>if 0<sz∧b.c.length=1∧(cs.map (·.1)).Nodup∧nm≠n∧((eu args).all fun x=>!(cs.map (·.1)).contains x)=true then .df (.callw g rw (cs.map (·.2.c))) (args++cap) (.tp [.sl sz,.one]) (some (.row nm)) (some ⟨[.x m [0]],0,.ext sz⟩) (some (n,⟨[.x m [1]],b.t,.cells⟩))else .no
  | none=>.no
 | _,_,_,_=>.no
def Nn(C:Cx)(c:Go.Call):Bool:=match c.args.toList with
 | Operand.tmp k::_=>C.fr.contains k
 | _=>false
def LG:V→V→Option (Int×Int)
 | .k (.int _ L),.k (.int _ M)=>if M≤256 then some (L,M)else none
 | _,_=>none
theorem JH{x y:V}{L M:Int}(h:LG x y=some (L,M)):∃ k k',x=.k (.int k L)∧y=.k (.int k' M):=by
 unfold LG at h
 split at h
 ·split at h
  ·cases h;exact⟨_,_,rfl,rfl⟩
  cases h
 cases h
def gj(C:Cx)(sh:List Sh)(nm:Nat)(op:Op)(vs:List V)(bs:List (Nat×Option ak)):Pl :=
 match op,vs with
 | .move _,[v]=>.ef v none none
 | .assign _,[v]=>.ef v none none
 | .pick _ _ _,[c,a,b]=>match c with
  | .k (.bool true)=>.ef a none none
  | .k (.bool false)=>.ef b none none
  | .x i path=>.br i path
  | _=>.no
 | .box t _,[v]=>match v with
  | .a cs=>.ef (.p nm 0) (some (IQ cs t)) none
  | v=>if v.JN bs sh then .ef (.p nm 0) (some (IQ [v] t)) none else .no
 | .alloc t,[]=>match zeroOf C.P t with
  | some (.agg cs)=>.ef (.p nm 0) (some (IQ (cs.toList.map .k) t)) none
  | some v=>if v.oneCell' then .ef (.p nm 0) (some (IQ [.k v] t)) none else .no
  | none=>.no
 | .load t _,[.p n o]=>match ku bs n,rowOf C.P t,aT C.P t with
  | some b,some true,some sz=>if o+sz≤b.c.length then .ef (.a ((b.c.drop o).take sz)) none none else .no
  | some b,some false,_=>match b.c[o]? with
   | some v=>.ef v none none
   | none=>.no
  | _,_,_=>.no
 | .load t _,[.ep s i sz o]=>match rowOf C.P t,aT C.P t with
  | some b,some n=>j9 bs b n s i sz o
  | _,_=>.no
 | .store t _ _,[.p n o,v]=>match ku bs n,aT C.P t with
  | some b,some sz=>if v.cells.length=sz∧o+sz≤b.c.length∧wU bs sh v.cells=true∧0<sz then .ef (.k undef) none (some (n,⟨cl b.c o v.cells,b.t,b.k⟩))else .no
  | _,_=>.no
 | .nilCheck _,[.p n o]=>.ef (.p n o) none none
 | .fieldAddr t _ f,[.p n o]=>match js C.P t f with
  | some d=>.ef (.p n (o+d)) none none
  | none=>.no
 | .fieldAddr t _ f,[.ep s i sz o]=>match js C.P t f with
  | some d=>ft bs s i sz (o+d)
  | none=>.no
 | .field t _ f,[.a cs]=>match xU C.P t f with
  | some (off,e)=>match rowOf C.P e,aT C.P e with
   | some true,some sz=>if off+sz≤cs.length then .ef (.a ((cs.drop off).take sz)) none none else .no
   | some false,_=>match cs[off]? with
    | some v=>.ef v none none
    | none=>.no
   | _,_=>.no
  | none=>.no
 | .indexAddr t _ _,[.p n o,.k (.int _ i)]=>match gO C.P t with
  | some (len,e)=>match aT C.P e with
   | some sz=>if 0≤i∧i<len then .ef (.p n (o+i.toNat*sz)) none none else .no
   | none=>.no
  | none=>.no
 | .indexAddr t _ _,[.p _ _,.x i path]=>match gO C.P t with
  | some (len,_)=>.sp i path len
  | none=>.no
 | .indexAddr t _ _,[.sl n o l _,.k (.int _ i)]=>match eh C.P t with
  | some e=>match aT C.P e with
   | some sz=>if 0≤i∧i<l then .ef (.p n (o+i.toNat*sz)) none none else .no
   | none=>.no
  | none=>.no
 | .indexAddr t _ _,[.sl _ _ l _,.x i path]=>.sp i path l
 | .indexAddr t _ _,[.x s p,i]=>match eh C.P t with
  | some e=>match aT C.P e with
   | some sz=>ft bs (.x s p) i sz 0
   | none=>.no
  | none=>.no
 | .indexAddr t _ _,[.row n,i]=>match eh C.P t with
  | some e=>match aT C.P e with
   | some sz=>ft bs (.row n) i sz 0
   | none=>.no
  | none=>.no
 | .store t _ _,[.ep (.row n) i sz o,v]=>match k6 bs n,aT C.P t with
  | some (c,e,sz'),some k=>match E7 c sz o i k with
   | some (ds,p)=>if sz'=sz∧v.cells.length=k∧0<k∧wU bs sh v.cells=true then .ef (.k undef) none (some (n,⟨[.a (cl ds p v.cells)],e,.row sz⟩))else .no
   | none=>if sz'=sz∧v.cells.length=k∧0<k∧pN sh v.cells=true then .df (.rset sz o) (.cat c::i::v.cells) .any (some (.k undef)) none (some (n,⟨[.x sh.length []],e,.row sz⟩))else .no
  | _,_=>.no
 | .index t _ _,[.a cs,.k (.int _ i)]=>match gO C.P t with
  | some (len,e)=>match rowOf C.P e,aT C.P e with
   | some true,some sz=>if 0≤i∧i<len∧i.toNat*sz+sz≤cs.length then .ef (.a ((cs.drop (i.toNat*sz)).take sz)) none none else .no
   | some false,some 1=>if 0≤i∧i<len then(match cs[i.toNat]? with
    | some v=>.ef v none none
    | none=>.no)else .no
   | _,_=>.no
  | none=>.no
 | .index t _ _,[.a _,.x i path]=>match gO C.P t with
  | some (len,_)=>.sp i path len
  | none=>.no
 | .extract _ j,[.t vs]=>match vs[j]? with
  | some v=>.ef v none none
  | none=>.no
 | .binOp op t _ _ _,[x,y]=>match x,y with
  | .a xs,.a ys=>match fK C.P 20 t,rowOf C.P t,op with
   | some l,some true,.eql=>if C.P.eqGuardType C.P.depth t=false∧xs.length=l.length∧ys.length=l.length then .df (.eqr false l.length l) (xs++ys) .one none none none else .no
   | some l,some true,.neq=>if C.P.eqGuardType C.P.depth t=false∧xs.length=l.length∧ys.length=l.length then .df (.eqr true l.length l) (xs++ys) .one none none none else .no
   | _,_,_=>.no
  | x,.k (.slice none 0 0)=>match eh C.P t,op with
   | some _,.eql=>.df (.snil false) [x] .one none none none
   | some _,.neq=>.df (.snil true) [x] .one none none none
   | _,_=>.no
  | x,y=>if qb C.P t=true then IU (.binb op) (BR op) x y else IU (.bin op t) (aZ op) x y
 | .unOp .not _ _,[x]=>H8 .not JL x
 | .unOp .neg _ _,[x]=>H8 .neg DR x
 | .convert src dst _,[x]=>match C.P.underlying src,C.P.underlying dst with
  | some (.int _),some (.int k)=>H8 (.conv k) (fF k) x
  | _,_=>.no
 | .slice t _ lo hi mx,.row n::args=>oG C bs nm sh.length t lo.isSome hi.isSome mx.isSome n args
 | .slice t _ lo hi mx,x::bs=>rG C t lo.isSome hi.isSome mx.isSome x bs
 | .makeFunc fn first _,vs=>.ef (.f fn (vs.take first.size) (vs.drop first.size)) none none
 | .build t parts,vs=>match placeOf C.P t,zeroOf C.P t with
  | some pl,some (.agg z)=>match xR pl (z.toList.map .k) ((parts.toList.map (·.1)).zip vs)with
   | some cs=>if parts.size=vs.length∧vs.all (fun v=>v.tX || v.one sh)=true then .ef (.a cs) none none else .no
   | none=>.no
  | _,_=>.no
 | .buildSlice t n parts,vs=>match eh C.P t with
  | some e=>match aT C.P e,zeroOf C.P e with
   | some sz,some _=>if n=0∧parts.size=0∧0<sz then .ef (.row nm) (some ⟨[],e,.row sz⟩) none else if C.bsr=true∧C.bsn≤n∧0<sz∧parts.toList.map (·.1)=List.range n∧vs.length=n∧0<n*sz∧n*sz≤16777216∧vs.all (fun v=>v.cells.length == sz && (v.tX || v.one sh))=true then .ef (.row nm) (some ⟨[.a (vs.flatMap V.cells)],e,.row sz⟩) none else if parts.toList.map (·.1)=List.range n∧vs.length=n∧0<n*sz∧n*sz≤16777216∧vs.all (fun v=>v.cells.length == sz && (v.tX || v.one sh))=true then .ef (.sl nm 0 n n) (some (IQ (vs.flatMap V.cells) e)) none else .no
   | _,_=>.no
  | none=>.no
 | .call c,vs=>match c.callee,vs with
  | .builtin .append,[x,y]=>match c.argTypes.toList with
   | [t,t']=>if t=t' then(match x with
    | .x i p=>kU C bs nm sh.length (Nn C c) t (.x i p) y
    | x=>kT C bs nm sh.length t x y)else .no
   | _=>.no
  | .builtin .len,[.row n]=>match (c.argTypes[0]?).bind (s7 C.P),kX bs n with
   | some false,some (c,_,sz)=>.df (.rlen sz) [.cat c] .one none none none
   | _,_=>.no
  | .builtin .len,[x]=>match (c.argTypes[0]?).bind (s7 C.P)with
   | some str=>(match str,x with
    | false,.sl _ _ l _=>.ef (.k (.int .i64 l)) none none
    | str,x=>H8 (.len str) (DK str) x)
   | none=>.no
  | .builtin .cap,[x]=>match (c.argTypes[0]?).bind (s7 C.P)with
   | some false=>(match x with
    | .sl _ _ _ l=>.ef (.k (.int .i64 l)) none none
    | x=>H8 .cap Jw x)
   | _=>.no
  | .builtin .min,[x,y]=>IU .min Az x y
  | .builtin .max,[x,y]=>IU .max yk x y
  | .value _,.f (.func g) [] cap::args=>if cap.isEmpty=true then mN C bs nm sh.length g c.argTypes.toList args else kV C bs nm sh.length g c.argTypes.toList args cap
  | _,_=>.no
 | .makeSlice t _ _,[x,y]=>match eh C.P t with
  | some e=>match aT C.P e,zeroOf C.P e,bytesOf C.P e with
   | some sz,some z,some by'=>match LG x y with
    | some (L,M)=>if 0≤L∧L=M∧M≤65536∧(by':Int)*M≤281474976710656 then .ef (.sl nm 0 L.toNat M.toNat) (some (IQ ((madeCells z.cells (M.toNat*sz)).toList.map .k) e)) none else .no
    | none=>if 0<sz then .df (.mks z sz by') [x,y] .any (some (.row nm)) (some ⟨[.x sh.length []],e,.row sz⟩) none else .no
   | _,_,_=>.no
  | none=>.no
 | _,_=>.no
def wa(C:Cx)(bs:List (Nat×Option ak))(m:Nat)(g:FuncId)(n:Nat)(ts:List TypeId)(args:List V):Pl:=match C.cp g,ku bs n,ew C.P bs ts args,enters C.P g with
 | some L,some b,some rw,true=>if b.c.length=L∧((eu args).all fun x=>!([n]:List Nat).contains x)=true then .df (.callp g rw b.t) (args++b.c) (.ag L) (some (.k (.tuple #[]))) none (some (n,⟨(List.range L).map fun j=>.x m [j],b.t,b.k⟩))else .no
 | _,_,_,_=>.no
def rF(C:Cx)(bs:List (Nat×Option ak))(nm m:Nat)(g:FuncId)(ts:List TypeId)(args:List V):Pl:=match C.rc g,enters C.P g with
 | some true,true=>match args,ts with
  | .row n::r,t::ts'=>match k6 bs n,eh C.P t,ew C.P bs ts' r with
   | some (c,e,sz),some e',some rw=>if e=e'∧0<sz∧((eu r).all fun x=>!([n]:List Nat).contains x)=true then .df (.callr g rw sz e) (.cat c::r) .any (some (.row nm)) (some ⟨[.x m []],e,.row sz⟩) (some (n,bH))else .no
   | _,_,_=>.no
  | _,_=>.no
 | some false,true=>match ts with
  | t::_=>match eh C.P t,ew C.P bs ts args with
   | some e,some rw=>match aT C.P e with
    | some sz=>if 0<sz then .df (.calln g rw sz e) args .any (some (.row nm)) (some ⟨[.x m []],e,.row sz⟩) none else .no
    | none=>.no
   | _,_=>.no
  | _=>.no
 | _,_=>.no
def Gq(P:Program)(src dst:TypeId):Bool:=match eh P src,P.underlying dst with
 | some e,some .string=>(match P.underlying e with
  | some (.int .u8)=>true
  | _=>false)
 | _,_=>false
def vZ(bs:List (Nat×Option ak))(x:V):Pl:=match x with
 | .row n=>match kX bs n with
  | some (c',_,sz')=>if sz'=1 then .df .b2s [.cat c'] .one none none none else .no
  | none=>.no
 | .sl n o l _=>match ku bs n with
  | some B=>if o+l≤B.c.length then .df .b2s [.a ((B.c.drop o).take l)] .one none none none else .no
  | none=>.no
 | .x i path=>.df .b2sx [.x i path] .one none none none
 | _=>.no
def vY(C:Cx)(bs:List (Nat×Option ak))(nm m:Nat)(t t':TypeId)(n:Nat)(y:V):Pl:=match C.P.underlying t',eh C.P t with
 | some .string,some e=>match aT C.P e,bytesOf C.P e,zeroOf C.P e with
  | some 1,some by',some z=>match BM C.P bs e 1 (.row n)with
   | some (c,b5)=>if z.cells.size=1∧by'≤1000000 then .df (.aps by') [.cat c,y] .any (some (.row nm)) (some ⟨c++[.x m []],e,.row 1⟩) (b5.map fun n=>(n,bH))else .no
   | none=>.no
  | _,_,_=>.no
 | _,_=>.no
def mapOf(P:Program)(t:TypeId):Option (TypeId×Nat×Bool×Value):=match P.underlying t with
 | some (.map k e)=>match rowOf P e,aT P e,zeroOf P e with
  | some b,some sz,some z=>some (k,sz,b,z)
  | _,_,_=>none
 | _=>none
def P0(b:ak):Option (List V×TypeId×Nat×Bool):=match b.k with
 | .mp k ag=>some (b.c,b.t,k,ag)
 | _=>none
def GG(bs:List (Nat×Option ak))(n:Nat):Option (List V×TypeId×Nat×Bool):=(jS bs n).bind P0
def wb(P:Program)(bs:List (Nat×Option ak))(t:TypeId)(ok:Bool)(n:Nat)(x:V):Pl:=match mapOf P t,GG bs n with
 | some (kt,sz,b,z),some (c,_,k,ag)=>if k=sz∧ag=b then .df (.mlk ok kt k ag z) [.cat c,x] (if ok=true then .tp [if ag then .ag k else .one,.one]else if ag then .ag k else .one) none none none else .no
 | _,_=>.no
def wg(P:Program)(bs:List (Nat×Option ak))(m:Nat)(t:TypeId)(n:Nat)(x v:V):Pl:=match mapOf P t,GG bs n with
 | some (kt,sz,b,_),some (c,bt,k,ag)=>if k=sz∧ag=b∧v.tX=ag∧v.cells.length=k then .df (.mset kt k ag) (.cat c::x::v.cells) .any (some (.k undef)) none (some (n,⟨[.x m []],bt,.mp k ag⟩))else .no
 | _,_=>.no
def rE(P:Program)(bs:List (Nat×Option ak))(m:Nat)(c:Callee)(ts:List TypeId)(n:Nat)(x:V):Pl:=match c,ts with
 | .builtin .delete,[t,_]=>match mapOf P t,GG bs n with
  | some (kt,_,_,_),some (c,bt,k,ag)=>.df (.mdel kt k) [.cat c,x] .any (some (.t [])) none (some (n,⟨[.x m []],bt,.mp k ag⟩))
  | _,_=>.no
 | _,_=>.no
def wc(P:Program)(bs:List (Nat×Option ak))(c:Callee)(ts:List TypeId)(n:Nat):Pl:=match c,ts with
 | .builtin .len,[t]=>match mapOf P t,GG bs n with
  | some _,some (c,_,k,_)=>.df (.mln k) [.cat c] .one none none none
  | _,_=>.no
 | _,_=>.no
def rB(C:Cx)(bs:List (Nat×Option ak))(nm m:Nat)(t t':TypeId)(n o l c:Nat)(y:V):Pl:=match eh C.P t,ku bs n,ew C.P bs [t] [y]with
 | some e,some B,some [src]=>match aT C.P e,bytesOf C.P e,zeroOf C.P e with
  | some sz,some by',some z=>if t'=t∧c=l∧0<l∧o+l*sz≤B.c.length∧0<sz∧z.cells.size=sz∧by'≤1000000 then .df (.apo sz by' src) [.a ((B.c.drop o).take (l*sz)),y] .any (some (.row nm)) (some ⟨[.x m []],e,.row sz⟩) none else .no
  | _,_,_=>.no
 | _,_,_=>.no
def lV(C:Cx)(bs:List (Nat×Option ak))(t:TypeId)(n:Nat)(i:V)(up:Bool):Pl:=match k6 bs n,(eh C.P t).bind (aT C.P)with
 | some (c,_,sz),some sz'=>if sz'=sz then .df (.rcut up sz) [.cat c,i] .one (some (.pt (.row n) i up sz)) none none else .no
 | _,_=>.no
def nH(C:Cx)(bs:List (Nat×Option ak))(nm m:Nat)(t:TypeId)(n:Nat)(i j:V)(szp:Nat):Pl:=match k6 bs n,eh C.P t with
 | some (c,e,sz),some e'=>if e'=e∧aT C.P e=some sz∧szp=sz then .df (.rdel sz) [.cat c,i,j] .any (some (.row nm)) (some ⟨[.x m []],e,.row sz⟩) (some (n,bH))else .no
 | _,_=>.no
def AH(P:Program)(ta:TypeId)(ok:Bool)(t:TypeId)(v:V):Pl:=match P.underlying ta,zeroOf P ta with
 | some (.interface _),_=>.no
 | some _,some z=>if t=ta then .ef (if ok=true then .t [v,.k (.bool true)]else v) none none else if ok=true∧z.oneCell'=true then .ef (.t [.k z,.k (.bool false)]) none none else .no
 | _,_=>.no
def AJ(P:Program)(ta:TypeId)(i:Nat)(path:List Nat):Pl:=match P.underlying ta,zeroOf P ta with
 | some (.interface _),_=>.no
 | some _,some z=>if z.oneCell'=true then .df (.tya ta) [.x i path] (.tp [.one,.one]) none none none else .no
 | _,_=>.no
def rm(P:Program)(t:TypeId):Bool:=match P.underlying t with
 | some (.interface _)=>false
 | some _=>true
 | none=>false
def kW(C:Cx)(sh:List Sh)(nm:Nat)(op:Op)(vs:List V)(bs:List (Nat×Option ak)):Pl :=
 match op,vs with
 | .load t _,[.k (.pointer (some ad))]=>match rowOf C.P t,aT C.P t with
  | some b,some n=>j9 bs b n (.k (.slice (some ad) 1 1)) (.k (.int .i64 0)) n 0
  | _,_=>.no
 | .load t _,[.ep (.sl n o l _) i sz o']=>match rowOf C.P t,aT C.P t,ku bs n with
  | some b,some k,some B=>if o+l*sz≤B.c.length∧0<sz then(if b then .df (.relems sz o' k) [.cat [.a ((B.c.drop o).take (l*sz))],i] (.ag k) none none none else .df (.relem sz o') [.cat [.a ((B.c.drop o).take (l*sz))],i] .one none none none)else .no
  | _,_,_=>.no
 | .store t _ _,[.ep (.sl n o l _) i sz o',v]=>match ku bs n,aT C.P t with
  | some B,some k=>if o+l*sz≤B.c.length∧0<sz∧v.cells.length=k∧0<k∧pN sh v.cells=true then .df (.rset sz o') (.cat [.a ((B.c.drop o).take (l*sz))]::i::v.cells) (.ag (l*sz)) (some (.k undef)) none (some (n,⟨cl B.c o ((List.range (l*sz)).map fun j=>.x sh.length [j]),B.t,B.k⟩))else .no
  | _,_=>.no
 | .indexAddr t _ _,[.k (.pointer (some ad)),i]=>match gO C.P t with
  | some (len,e)=>match aT C.P e with
   | some sz=>ft bs (.k (.slice (some ad) len len)) i sz 0
   | none=>.no
  | none=>.no
 | .indexAddr t _ _,[.p n o,.x i path]=>if C.arr then(match gO C.P t with
  | some (len,e)=>match aT C.P e with
   | some sz=>ft bs (.sl n o len len) (.x i path) sz 0
   | none=>.no
  | none=>.no)else .no
 | .indexAddr t _ _,[.sl n o l c,.x i path]=>if C.arr then(match eh C.P t with
  | some e=>match aT C.P e with
   | some sz=>ft bs (.sl n o l c) (.x i path) sz 0
   | none=>.no
  | none=>.no)else .no
 | .index t _ _,[.a cs,.x i path]=>if C.arr then(match gO C.P t with
  | some (len,e)=>match rowOf C.P e,aT C.P e with
   | some false,some 1=>if cs.length=len then .df (.relem 1 0) [.cat [.a cs],.x i path] .one none none none else .no
   | _,_=>.no
  | none=>.no)else .no
 | .makeSlice t _ _,[.k (.int _ L),.k (.int _ M)]=>match eh C.P t with
  | some e=>match aT C.P e,zeroOf C.P e,bytesOf C.P e with
   | some sz,some z,some by'=>if 0≤L∧L<M∧M≤256∧(by':Int)*M≤281474976710656 then .ef (.sl nm 0 L.toNat M.toNat) (some (IQ ((madeCells z.cells (M.toNat*sz)).toList.map .k) e)) none else .no
   | _,_,_=>.no
  | none=>.no
 | .convert src dst _,[x]=>match C.P.underlying src,eh C.P dst with
  | some .string,some e=>match C.P.underlying e with
   | some (.int .u8)=>.df .s2b [x] .any (some (.row nm)) (some ⟨[.x sh.length []],0,.ext 1⟩) none
   | _=>.no
  | _,_=>if Gq C.P src dst=true then vZ bs x else .no
 | .call c,[.sl n o l cp,y]=>match c.callee,c.argTypes.toList with
  | .builtin .append,[t,t']=>rB C bs nm sh.length t t' n o l cp y
  | .builtin .copy,[t,t']=>match eh C.P t,ku bs n with
   | some e,some B=>match aT C.P e with
    | some 1=>if o+l≤B.c.length then(match y with
     | .sl n' o' l' _=>match ku bs n' with
      | some B'=>if o'+l'≤B'.c.length∧pN sh ((B'.c.drop o').take (Nat.min l' l))=true∧0<l' then .ef (.k (.int .i64 ((Nat.min l' l:Nat):Int))) none (some (n,⟨cl B.c o ((B'.c.drop o').take (Nat.min l' l)),B.t,B.k⟩))else .no
      | none=>.no
     | .row n'=>match kX bs n' with
      | some (c',_,sz')=>if sz'=1 then .df (.cpyx l) [.a ((B.c.drop o).take l),.cat c'] (.tp [.one,.ag l]) (some (.x sh.length [0])) none (some (n,⟨cl B.c o ((List.range l).map fun j=>.x sh.length [1,j]),B.t,B.k⟩))else .no
      | none=>.no
     | .x i path=>.df (.cpy 1 l) [.a ((B.c.drop o).take l),.x i path] (.tp [.one,.ag l]) (some (.x sh.length [0])) none (some (n,⟨cl B.c o ((List.range l).map fun j=>.x sh.length [1,j]),B.t,B.k⟩))
     | _=>.no)else .no
    | _=>.no
   | _,_=>.no
  | _,_=>.no
 | .slice t _ none (some _) none,[.row n,i]=>match C.del,i with
  | true,i=>lV C bs t n i false
  | false,.k (.int _ 0)=>match k6 bs n,(eh C.P t).bind (aT C.P)with
   | some (_,e,sz),some sz'=>if sz'=sz then .ef (.row nm) (some ⟨[],e,.row sz⟩) (some (n,bH))else .no
   | _,_=>.no
  | _,_=>.no
 | .slice t _ (some _) none none,[.row n,i]=>if C.del then lV C bs t n i true else .no
 | .call c,[.pt (.row n) i false _,.pt (.row n') j true szp]=>match c.callee,c.argTypes.toList with
  | .builtin .append,[t,t']=>if n'=n∧t'=t then nH C bs nm sh.length t n i j szp else .no
  | _,_=>.no
 | .slice t _ none (some _) none,[.k (.slice none 0 0),.k (.int _ 0)]=>match (eh C.P t).bind (aT C.P)with
  | some _=>.ef (.k (.slice none 0 0)) none none
  | none=>.no
 | .call c,[.k (.slice none 0 0),y]=>match c.callee,c.argTypes.toList with
  | .builtin .append,[t,t']=>match C.P.underlying t',eh C.P t with
   | some (.int _),some e=>match aT C.P e,bytesOf C.P e,zeroOf C.P e with
    | some sz,some by',some z=>if 0<sz∧z.cells.size=sz then .df (.apz z sz by') [y] .any (some (.row nm)) (some ⟨[.x sh.length []],e,.row sz⟩) none else .no
    | _,_,_=>.no
   | _,_=>.no
  | _,_=>.no
 | .call c,.f (.func g) [.p n 0] []::args=>match c.callee with
  | .value _=>wa C bs sh.length g n c.argTypes.toList args
  | _=>.no
 | .unOp .xor _ _,[.x i path]=>.df .cpl [.x i path] .one none none none
 | .call c,[.row n,y]=>match c.callee,c.argTypes.toList with
  | .builtin .append,[t,t']=>vY C bs nm sh.length t t' n y
  | _,_=>.no
 | .makeInterface t _,[v]=>if rm C.P t=true then .ef (.ifc t v) none none else .no
 | .typeAssert _ _ ta ok,[.ifc t v]=>AH C.P ta ok t v
 | .typeAssert _ _ ta true,[.x i path]=>AJ C.P ta i path
 | .makeMap t none,[]=>match mapOf C.P t with
  | some (_,sz,b,_)=>.ef (.mapV nm) (some ⟨[.a [.k (.int .i64 0)]],0,.mp sz b⟩) none
  | none=>.no
 | .lookup t _ _ ok,[.mapV n,x]=>wb C.P bs t ok n x
 | .mapUpdate t _ _ _,[.mapV n,x,v]=>wg C.P bs sh.length t n x v
 | .call c,[.mapV n,x]=>rE C.P bs sh.length c.callee c.argTypes.toList n x
 | .call c,[.mapV n]=>wc C.P bs c.callee c.argTypes.toList n
 | .call c,.f (.func g) [] []::args=>match c.callee with
  | .value _=>rF C bs nm sh.length g c.argTypes.toList args
  | _=>.no
 | _,_=>.no
theorem qh{hp:List (Option ak)}{vs:List V}{n k:Nat}{c:List V}{t:TypeId}{ag:Bool}(h:GG (cK hp vs) n=some (c,t,k,ag)):hp[n]?=some (some ⟨c,t,.mp k ag⟩):=by
 obtain⟨b',h1,h2⟩:=Option.bind_eq_some_iff.1 h
 unfold P0 at h2
 split at h2
 ·rename_i hk
  obtain⟨b1,b2,b3⟩:=b'
  simp only [Option.some.injEq,Prod.mk.injEq]at h2 hk
  obtain⟨rfl,rfl,rfl,rfl⟩:=h2
  subst hk
  exact eJ h1
 cases h2
theorem nE{P:Program}{t kt:TypeId}{k:Nat}{b:Bool}{z:Value}(h:mapOf P t=some (kt,k,b,z)):∃ e,P.underlying t=some (.map kt e)∧rowOf P e=some b∧aT P e=some k∧zeroOf P e=some z:=by
 unfold mapOf at h
 split at h
 ·rename_i kt e hu
  split at h
  ·rename_i b' k' z' h2 h3 h4
   simp only [Option.some.injEq,Prod.mk.injEq]at h
   obtain⟨rfl,rfl,rfl,rfl⟩:=h
   exact⟨e,hu,h2,h3,h4⟩
  cases h
 cases h
def dQ(C:Cx)(sh:List Sh)(nm:Nat)(op:Op)(vs:List V)(bs:List (Nat×Option ak)):Pl:=match kW C sh nm op vs bs with
 | .no=>gj C sh nm op vs bs
 | p=>p
theorem rH{C:Cx}{sh:List Sh}{nm:Nat}{op:Op}{vs:List V}{bs:List (Nat×Option ak)}{p:Pl}(h:dQ C sh nm op vs bs=p):(kW C sh nm op vs bs=p∧p≠.no)∨(kW C sh nm op vs bs=.no∧gj C sh nm op vs bs=p):=by
 unfold dQ at h
 split at h
 ·rename_i hn;exact .inr ⟨hn,h⟩
 rename_i hn
 refine .inl ⟨h,?_⟩
 rw [← h]
 exact hn
def bX:Op→Bool
 | .load _ _=>false
 | .store _ _ _=>false
 | .slice _ _ _ _ _=>false
 | .convert _ _ _=>false
 | .lookup _ _ _ _=>false
 | .mapUpdate _ _ _ _=>false
 | .box _ _=>false
 | .call c=>match c.callee with
  | .builtin .len=>true
  | _=>false
 | _=>true
def vO:List V→Bool
 | [.mapV _]=>true
 | _=>false
def ey(op:Op)(vs:List V):Bool:=bX op && !vO vs
theorem E0{op:Op}{vs:List V}(h:ey op vs=true):bX op=true:=by
 unfold ey at h
 rw [Bool.and_eq_true]at h
 exact h.1
def BS:Op→Bool
 | .call c=>match c.callee with
  | .value _=>true
  | _=>false
 | _=>false
def pk(hp:List (Option ak)):List V→List V
 | []=>[]
 | v::l=>(match v with
  | .a cs=>cs.filter V.B9
  | .sl n _ _ _=>match ((hp[n]?).join).bind jT with
   | some b=>b.c.filter V.B9
   | none=>[]
  | _=>[])++pk hp l
def MH:List V→List V
 | .f _ fs cap::_=>fs++cap
 | _=>[]
def wI:Op→Bool
 | .store _ _ _=>true
 | _=>false
def fS(hp:List (Option ak))(op:Op)(vs:List V):List V:=if BS op || wI op then vs++(MH vs++pk hp vs)else vs
def S.ja(s:S)(op:Op)(vs:List V):List (Nat×Option ak):=if ey op vs then cK s.ln vs else cK s.hp (fS s.hp op vs)
end SX
end Go.Proofs.YtidekfgkpindbaaGreatDoor
