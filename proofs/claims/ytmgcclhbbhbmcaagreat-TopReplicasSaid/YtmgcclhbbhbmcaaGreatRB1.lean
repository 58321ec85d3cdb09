/-
  Texts behind the statement, part 1.
-/
import Derived.Test.YtmgcclhbbhbmcaaGreatRows
import Derived.WalkKit
import Derived.ProofKit
import Derived.OpenShut
import Derived.Lib.Hide
import Derived.CallsIn
import Derived.ControlIn
import Derived.OrdersIn
import Derived.LoopIn
import Derived.TacticsIn
import Derived.RangeFuncIn
import Derived.RangeFuncLeaves
import Derived.RangeFuncCalls
import Derived.RangeFuncBound
import Derived.RangeFuncRecord
import Derived.Orders
import Derived.StillTail
import Derived.Deep.WholeRow
import Derived.Laws.EntriesVeiled
import Derived.Maps.AppendAt
import Derived.Laws.Rows
import Derived.Laws.Tables
import Derived.Laws.CopyRow
import Derived.Great.BuildSlice
import Derived.Laws.StructEq
import Derived.DeepKeys
import Derived.Laws.MakeOwn
import Derived.Deep.AppendSrc
import Derived.Deep.DeepAppendWide
import Derived.ChangeMaps5
import Derived.Maps.Keyed
import Derived.Laws.BytesArg
set_option linter.unusedSimpArgs false
set_option linter.unusedVariables false
namespace Go.Proofs.YtmgcclhbbhbmcaaGreat
open Go Go.RowKit Go.ChangeShapes Go.WideShapes Go.ChangeAt
section
variable {H:Type}{enc:TypeId×Value→H}{P:Program}
theorem trodAll_below(hl:laidOutB P=true){W W':World}(hb:Below W.heap.size W W') :
 ∀ (ts:List TypeId) (vs:List Value) (ds:List (DataW H)) (ps:List MemPlace),(∀ t∈ts,P.readableRec t=true∧t<P.types.size) →
  DataW.TrodAll enc P W 0 (fun _=>true) true ts vs ds ps→(∀ x∈ps,x.block<W.heap.size) →
  DataW.TrodAll enc P W' 0 (fun b=>decide (b<W.heap.size)) true ts vs ds ps
 | [],vs,ds,ps,_,h,_=>by
  obtain⟨rfl,rfl,rfl⟩:=trodAll_nil h
  exact trodAll_mk0
 | t::ts,vs,ds,ps,hr,h,hlt=>by
  obtain⟨v,vs',d,ds',p,q,rfl,rfl,rfl,h1,h2⟩:=trodAll_cons h
  exact trodAll_cons_mk (Below.trod hl (hr t (List.mem_cons_self ..)).1 (hr t (List.mem_cons_self ..)).2 h1 hb (fun x hx=>hlt x (List.mem_append.2 (.inl hx))))
   (trodAll_below hl hb ts vs' ds' q (fun u hu=>hr u (List.mem_cons_of_mem _ hu)) h2 (fun x hx=>hlt x (List.mem_append.2 (.inr hx))))
def readsB(P:Program)(ts:List TypeId):Bool:=ts.all fun t=>P.readableRec t && decide (t<P.types.size)
theorem law_post{f:Func}{s:ChangeSpec}{apart fresh handsOn:Bool}{W W':World}{args:Array Value}{ds:List (DataW H)}{before:List MemPlace}{tb:TypeId}
 (hl:laidOutB P=true) (hr:readsB P f.params.toList=true) (hv:s.vars=[])
 (hW:DataW.Whole enc P f.params.toList s.vars apart W args.toList ds [] before) (hb:Below W.heap.size W W')
 (hs:s.fn H (ds++[])={ results:=[.lit (.bool true)],args:=ds }) (hrt:f.resultTypes=#[tb]) (hub:P.underlying tb=some .bool) :
 s.post enc P f apart fresh handsOn false W args (.bool true) W':=by
 have hlt:=hW.lt
 have hW':=hW
 obtain⟨p,q,hA,hV,rfl,_,_⟩:=hW'
 rw [hv]at hV
 obtain⟨_,rfl⟩:=trodVars_none hV
 refine⟨ds,[],p++[],[],p,[],hW,?_,?_,?_,hb.frame _,fun h=>by cases h⟩
 ·rw [hs,hrt]
  exact trodAll_cons_mk (shut_bool hub true) trodAll_mk0
 ·rw [hs]
  refine trodAll_below hl hb _ _ _ _ (fun t ht=>?_) hA (fun x hx=>hlt x (List.mem_append.2 (.inl hx)))
  have:=List.all_eq_true.1 hr t ht
  simpa using this
 rw [hs,hv]
 rfl
end
theorem laidOut:laidOutB Tryz.prog=true:=by kernel_rfl
theorem ownK:ownKnob Tryz.prog.godebug=none:=by kernel_rfl
end Go.Proofs.YtmgcclhbbhbmcaaGreat
namespace Go.Proofs.YtmgcclhbbhbmcaaGreat
open Go Go.RowKit
def FW(r:Option Nat):Fence:={ Fence.wide with round:=r }
theorem callsFW{r:Option Nat}{n:Nat}{P:Program}{f:FuncId}{args:Array Value}{w:World}{R:Ending→World→Prop}:CallsIn (FW r) n P f args w R↔Calls P f args w R :=
 (show CallsIn (FW r) n P f args w R↔CallsIn Fence.wide n P f args w R from Iff.rfl).trans callsIn_wide
theorem rowsFW{r:Option Nat}{n:Nat}{P:Program}{row:String}{args:Array Value}{w:World}{R:Value→World→Prop}(h:Rows P row args w R):RowsIn (FW r) n P row args w R :=
 fun c cs _=>let ⟨v,w',r,s⟩:=h c cs;⟨v,w',r,(StepsIn.of_steps s).mono fun m _=>fenced_wide P m⟩
def wpR(r:Option Nat)(P:Program)(c:Code)(Q:Exit→Act→World→Prop)(a:Act)(w:World):Prop:=c.wpIn (FW r) 0 P Q a w
theorem operIn_of_wp{r:Option Nat}{P:Program}{o:Oper}{a:Act}{w:World}{K:Act→World→Prop}{Q:Exit→Act→World→Prop}(hd:∀ c,o.op≠.defer c)(h:o.wp P a w K Q):o.wpIn (FW r) 0 P a w K Q:=by
 refine⟨fun _ _=>trivial,?_⟩
 rw [Oper.semAt_eq _ _ _ hd]
 unfold Oper.wp at h
 generalize (execOp a.eval o).run P w=x at h ⊢
 cases x with
 | ok x w' =>
  cases x<;>simp only [Oper.upon]at h<;>simp only [Oper.uponIn]<;>first
   | exact h
   | exact⟨fun h=>by simp [FW,Fence.wide]at h,callsFW.2 h⟩
   | exact⟨fun h=>by simp [FW,Fence.wide]at h,rowsFW h⟩
   | exact h.elim
 | halt x w'=>cases x<;>simp only [Oper.upon]at h<;>simp only [Oper.uponIn]<;>first|exact h|exact h.elim
section
variable {r:Option Nat}{P:Program}{Q:Exit→Act→World→Prop}{a:Act}{w:World}
theorem wpR_skip(h:Q .normal a w):wpR r P .skip Q a w:=wpIn_skip h
theorem wpR_label{l:Nat}(h:Q .normal a w):wpR r P (.label l) Q a w:=wpIn_label h
theorem wpR_exit{id:Nat}(h:Q (.exit id) a w):wpR r P (.exit id) Q a w:=wpIn_exit h
theorem wpR_ret(h:Q .ret a w):wpR r P .ret Q a w:=wpIn_ret h
theorem wpR_seq{x y:Code}(h:wpR r P x (Exit.then (wpR r P y Q) Q) a w):wpR r P (.seq x y) Q a w:=wpIn_seq h
theorem wpR_block{id:Nat}{c:Code}(h:wpR r P c (Exit.inBlock id Q) a w):wpR r P (.block id c) Q a w:=wpIn_block h
theorem wpR_cond_true{c:Operand}{x y:Code}(hc:a.eval c=.bool true)(h:wpR r P x Q a w):wpR r P (.cond c x y) Q a w:=wpIn_cond_true hc h
theorem wpR_cond_false{c:Operand}{x y:Code}(hc:a.eval c=.bool false)(h:wpR r P y Q a w):wpR r P (.cond c x y) Q a w:=wpIn_cond_false hc h
def wpLR(r:Option Nat)(P:Program)(all:Array Oper)(Q:Exit→Act→World→Prop)(l:List Oper)(a:Act)(w:World):Prop:=wpListIn (FW r) 0 P all Q l a w
theorem wpLR_nil{all:Array Oper}(h:Q .normal a w):wpLR r P all Q [] a w:=h
theorem wpLR_cons{all:Array Oper}{o:Oper}{rest:List Oper}(hw:Region.wanted o (yielded all a.tmps)=true)(h:o.wpIn (FW r) 0 P a w (wpLR r P all Q rest) Q):wpLR r P all Q (o::rest) a w:=by
 unfold wpLR wpListIn
 rw [if_pos hw]
 exact h
theorem wpLR_skip{all:Array Oper}{o:Oper}{rest:List Oper}(hw:Region.wanted o (yielded all a.tmps)=false)(h:wpLR r P all Q rest (a.put o.dst undef) w):wpLR r P all Q (o::rest) a w:=by
 unfold wpLR wpListIn
 rw [if_neg (by simp [hw])]
 exact⟨fun _ _=>trivial,h⟩
theorem wpR_region{id:Nat}{ops:Array Oper}(h:wpLR r P ops Q ops.toList a w):wpR r P (.region id ops false) Q a w:=wpIn_region_list h
theorem wpR_loop_ghost{γ:Type}{c:Code}(I:γ→Act→World→Prop)(μ:γ→Nat)(g0:γ)(h0:I g0 a w)
 (round:∀ g a w,I g a w→wpR r P c (Exit.then (fun a' w'=>∃ g',I g' a' w'∧μ g'<μ g) Q) a w):wpR r P (.loop c) Q a w:=by
 intro b k cs hro hb hr
 have key:∀ n g a w,μ g=n→I g a w →
  ∃ e a' w',Q e a' w'∧ArrivesIn (Machine.fenced P (FW r)) P (lone (b.atR a (.code c::.inLoop c::k)) cs w) b k cs e a' w':=by
  intro n
  induction n using Nat.strongRecOn with
  | _ n ih =>
   intro g a w hn hI
   obtain⟨e,a₁,w₁,hq,harr⟩:=round g a w hI b (.inLoop c::k) cs hro hb hr
   cases e with
   | normal =>
    obtain⟨g',hI₁,hlt⟩:=hq
    obtain⟨e₂,a₂,w₂,hq₂,harr₂⟩:=ih (μ g') (hn▸hlt) g' a₁ w₁ rfl hI₁
    exact⟨e₂,a₂,w₂,hq₂,.of_steps (StepsIn.trans harr (.one (fenced_calm hb hr rfl) stepR_inLoop)) harr₂⟩
   | exit id=>exact⟨_,a₁,w₁,hq,.pass (x:=.inLoop c) rfl (fun _ _=>.inl (by simp)) harr⟩
   | goto l=>exact⟨_,a₁,w₁,hq,.pass (x:=.inLoop c) rfl (fun _ _=>.inl (by simp)) harr⟩
   | ret=>exact⟨_,a₁,w₁,hq,.pass (x:=.inLoop c) rfl (fun _ _=>.inl (by simp)) harr⟩
   | panic ch=>exact⟨_,a₁,w₁,hq,.pass (x:=.inLoop c) rfl (fun _ _=>.inl (by simp)) harr⟩
   | outgrown=>exact⟨_,a₁,w₁,hq,.pass (x:=.inLoop c) rfl (fun _ _=>.inl (by simp)) harr⟩
 obtain⟨e,a',w',hq,harr⟩:=key _ g0 a w rfl h0
 exact⟨e,a',w',hq,.of_steps (.one (fenced_calm hb hr rfl) stepR_loop) harr⟩
def roundsR(r:Option Nat)(P:Program)(c:Code)(Q:Exit→Act→World→Prop):Nat→Act→World→Prop
 | 0=>fun _ _=>False
 | m+1=>fun a w=>wpR r P c (Exit.then (roundsR r P c Q m) Q) a w
theorem wpR_mono{c:Code}{Q':Exit→Act→World→Prop}(h:wpR r P c Q a w)(hq:∀ e a' w',Q e a' w'→Q' e a' w'):wpR r P c Q' a w:=wpIn_mono h hq
theorem wpR_loop_rounds{c:Code}(m:Nat)(h:roundsR r P c Q m a w):wpR r P (.loop c) Q a w:=by
 refine wpR_loop_ghost (γ:=Nat) (fun m a w=>roundsR r P c Q m a w) id m h ?_
 intro m a w hm
 cases m with
 | zero=>exact hm.elim
 | succ m =>
  refine wpR_mono hm fun e a' w' hq=>?_
  cases e with
  | normal=>exact⟨m,hq,Nat.lt_succ_self m⟩
  | exit id=>exact hq
  | goto l=>exact hq
  | ret=>exact hq
  | panic ch=>exact hq
  | outgrown=>exact hq
end
end Go.Proofs.YtmgcclhbbhbmcaaGreat
namespace Go.Proofs.YtmgcclhbbhbmcaaGreat
open Go Go.RowKit
namespace Z
inductive CK where
 | i (k:IntKind)|b|s|sl (t:TypeId)|o
 deriving DecidableEq
structure Ty where
 row:Bool
 ks:List CK
def Ty.n(t:Ty):Nat:=t.ks.length
inductive Tok where
 | non|full|nil|tip (n:Nat)
 deriving DecidableEq
inductive D where
 | k (x:Value)
 | v (x:Value)
 | agg (l:List D)
 | tup (l:List D)
 | mem (t:TypeId) (l:List D)
 | sl (kn:Bool) (t:TypeId) (l:List D) (tk:Tok)
 | ep (d:D) (q:Nat)
 | p (n i q:Nat)
 | px (n i q:Nat)
 | ar (kn:Bool) (n i len:Nat)
 | fn (f:Fn) (first caps:List D)
 | mp (n:Nat)
 | ifc (t:TypeId) (d:D)
 | y (n:Nat)
 | any
def D.one:D→Bool
 | .agg _|.tup _|.any=>false
 | _=>true
def D.int:D→Int
 | .k (.int _ n)=>n
 | .v (.int _ n)=>n
 | _=>0
def D.bool:D→Bool
 | .k (.bool n)=>n
 | .v (.bool n)=>n
 | _=>false
def D.str:D→ByteArray
 | .k (.string n)=>n
 | .v (.string n)=>n
 | _=>.empty
def D.items:D→List D
 | .sl _ _ l _=>l
 | _=>[]
def D.cells:D→List D
 | .agg l=>l
 | d=>[d]
def D.cell(d:D)(j:Nat):D:=d.cells.getD j .any
def etaC:CK→D→D
 | .i k,d=>.v (.int k d.int)
 | .b,d=>.v (.bool d.bool)
 | .s,d=>.v (.string d.str)
 | .sl t,d=>.sl false t d.items .non
 | .o,d=>d
def etaL:List CK→D→Nat→List D
 | [],_,_=>[]
 | c::r,d,j=>etaC c (d.cell j)::etaL r d (j+1)
def eta(t:Ty)(d:D):D:=match t.row with
 | true=>.agg (etaL t.ks d 0)
 | false=>etaC (t.ks.headD .o) d
def CkOk:CK→D→Prop
 | .i k,d=>∃ n,d=.k (.int k n)∨d=.v (.int k n)
 | .b,d=>∃ n,d=.k (.bool n)∨d=.v (.bool n)
 | .s,d=>∃ n,d=.k (.string n)∨d=.v (.string n)
 | .sl t,d=>∃ kn l tk,d=.sl kn t l tk
 | .o,d=>d.one=true
def SzOk(t:Ty)(d:D):Prop:=match t.row with
 | true=>∃ l,d=.agg l∧l.length=t.n
 | false=>(∀ l,d≠.agg l)∧t.n=1
def D.pure:D→Bool
 | .k _|.v _|.any=>true
 | .sl _ _ _ (.tip _)=>false
 | .sl _ _ _ _=>true
 | .mem _ _|.ep _ _=>true
 | .fn _ [] []=>true
 | .ifc _ (.k _)|.ifc _ (.v _)=>true
 | _=>false
structure ElOk(t:Ty)(d:D):Prop where
 sz:SzOk t d
 ck:∀ (j:Nat) c e,t.ks[j]?=some c→d.cells[j]?=some e→CkOk c e
 pu:∀ e∈d.cells,e.pure=true
structure Reg where
 b:Nat
 s:Nat
 w:Nat
 c:Nat
 v:Bool:=false
 lp:Option Loop:=none
abbrev Al:=Nat→Option Reg
abbrev Gh:=Nat→Nat→Option Value
def TokOk(α:Al):Tok→Option Addr→Nat→Nat→Prop
 | .non,_,_,_=>True
 | .full,_,n,c=>c=n
 | .nil,A,n,c=>A=none∧n=0∧c=0
 | .tip m,A,n,c=>∃ r,α m=some r∧n=r.w∧c=r.c∧(r.v=false→A=some ⟨r.b,0,none⟩)∧(r.v=true→c=n)
def non:Al:=fun _=>none
inductive Den (T:TypeId→Option Ty) (I:Gh):Al→D→Value→Prop where
 | k {α:Al} {x:Value} (h1:x.oneCell'=true):Den T I α (.k x) x
 | v {α:Al} {x:Value} (h1:x.oneCell'=true):Den T I α (.v x) x
 | agg {α:Al} {l:List D} {c:Array Value} (hl:l.length=c.size) (hd:∀ (j:Nat) d x,l[j]?=some d→c[j]?=some x→Den T I α d x):Den T I α (.agg l) (.agg c)
 | tup {α:Al} {l:List D} {c:Array Value} (hl:l.length=c.size) (hd:∀ (j:Nat) d x,l[j]?=some d→c[j]?=some x→Den T I α d x):Den T I α (.tup l) (.tuple c)
 | mem {α:Al} {t:TypeId} {ty:Ty} {l:List D} {b o:Nat} (g:Nat→Value) (ht:T t=some ty) (he:∀ d∈l,ElOk ty d) (hI:∀ q,q<l.length*ty.n→I b (o+q)=some (g q))
  (hd:∀ (i j:Nat) d e,l[i]?=some d→d.cells[j]?=some e→Den T I non e (g (i*ty.n+j))):Den T I α (.mem t l) (.pointer (some ⟨b,o,none⟩))
 | sl {α:Al} {kn:Bool} {t:TypeId} {l:List D} {tk:Tok} {A:Option Addr} {c:Nat} (hc:l.length≤c) (hk:TokOk α tk A l.length c) (hm:l≠[]→Den T I α (.mem t l) (.pointer A)):Den T I α (.sl kn t l tk) (.slice A l.length c)
 | ep {α:Al} {d:D} {q b o:Nat} (g:Nat→Value) (hI:∀ j,j<d.cells.length→I b (o+j)=some (g j)) (hd:∀ (j:Nat) e,d.cells[j]?=some e→Den T I non e (g j)):Den T I α (.ep d q) (.pointer (some ⟨b,o+q,none⟩))
 | p {α:Al} {n i q:Nat} {r:Reg} (hr:α n=some r):Den T I α (.p n i q) (.pointer (some ⟨r.b,i*r.s+q,none⟩))
 | px {α:Al} {n i q:Nat} {r:Reg} (hr:α n=some r):Den T I α (.px n i q) (.pointer (some ⟨r.b,i*r.s+q,none⟩))
 | ar {α:Al} {kn:Bool} {n i len c:Nat} {r:Reg} {A:Option Addr} (hr:α n=some r) (hw:i+len≤r.w) (hc:len≤c) (hA:0<len→A=some ⟨r.b,i*r.s,none⟩):Den T I α (.ar kn n i len) (.slice A len c)
 | fn {α:Al} {f:Fn} {a b:List D} {x y:Array Value} (ha:a.length=x.size) (hb:b.length=y.size) (hx:∀ (j:Nat) d v,a[j]?=some d→x[j]?=some v→Den T I α d v) (hy:∀ (j:Nat) d v,b[j]?=some d→y[j]?=some v→Den T I α d v):Den T I α (.fn f a b) (.func f x y)
 | mp {α:Al} {n:Nat} {r:Reg} (hr:α n=some r):Den T I α (.mp n) (.map (some r.b))
 | ifc {α:Al} {t:TypeId} {d:D} {x:Value} (h:Den T I α d x):Den T I α (.ifc t d) (.iface t x)
 | y {α:Al} {n:Nat} {r:Reg} (hr:α n=some r):Den T I α (.y n) (.func (.yield r.b) #[] #[])
 | any {α:Al} {x:Value}:Den T I α .any x
section
variable {T:TypeId→Option Ty}{I I':Gh}{α α':Al}
def LeI(I I':Gh):Prop:=∀ b o x,I b o=some x→I' b o=some x
def LeA(α α':Al):Prop:=∀ n r,α n=some r→α' n=some r
theorem LeI.refl(I:Gh):LeI I I:=fun _ _ _ h=>h
theorem LeA.refl(α:Al):LeA α α:=fun _ _ h=>h
theorem LeI.trans{I'':Gh}(h:LeI I I')(h':LeI I' I''):LeI I I'':=fun _ _ _ hx=>h' _ _ _ (h _ _ _ hx)
theorem LeA.trans{α'':Al}(h:LeA α α')(h':LeA α' α''):LeA α α'':=fun _ _ hx=>h' _ _ (h _ _ hx)
theorem LeA.non(α:Al):LeA non α:=fun _ _ h=>nomatch h
theorem TokOk.mono{tk:Tok}{A:Option Addr}{n c:Nat}(h:TokOk α tk A n c)(ha:LeA α α'):TokOk α' tk A n c:=by
 cases tk with
 | tip m=>obtain⟨r,h1,h2⟩:=h;exact⟨r,ha _ _ h1,h2⟩
 | _=>exact h
theorem Den.mono{d:D}{x:Value}(h:Den T I α d x)(hI:LeI I I'):∀ {α'},LeA α α'→Den T I' α' d x:=by
 induction h with
 | k h=>exact fun _=>.k h
 | v h=>exact fun _=>.v h
 | agg hl _ ih=>exact fun ha=>.agg hl fun j d x h1 h2=>ih j d x h1 h2 ha
 | tup hl _ ih=>exact fun ha=>.tup hl fun j d x h1 h2=>ih j d x h1 h2 ha
 | mem g ht he hg _ ih=>exact fun ha=>.mem g ht he (fun q hq=>hI _ _ _ (hg q hq)) fun i j d e h1 h2=>ih i j d e h1 h2 (.refl _)
 | sl hc hk _ ih=>exact fun ha=>.sl hc (hk.mono ha) fun hn=>ih hn ha
 | ep g hg _ ih=>exact fun ha=>.ep g (fun j hj=>hI _ _ _ (hg j hj)) fun j e h=>ih j e h (.refl _)
 | px hr=>exact fun ha=>.px (ha _ _ hr)
 | p hr=>exact fun ha=>.p (ha _ _ hr)
 | ar hr hw hc hA=>exact fun ha=>.ar (ha _ _ hr) hw hc hA
 | fn ha hb _ _ ih1 ih2=>exact fun h=>.fn ha hb (fun j d v h1 h2=>ih1 j d v h1 h2 h) fun j d v h1 h2=>ih2 j d v h1 h2 h
 | mp hr=>exact fun ha=>.mp (ha _ _ hr)
 | ifc _ ih=>exact fun ha=>.ifc (ih ha)
 | y hr=>exact fun ha=>.y (ha _ _ hr)
 | any=>exact fun _=>.any
theorem Den.pure'{d:D}{x:Value}(h:Den T I α d x):∀ α',d.pure=true→Den T I α' d x:=by
 induction h with
 | k h=>exact fun _ _=>.k h
 | v h=>exact fun _ _=>.v h
 | agg=>exact fun _ h=>nomatch h
 | tup=>exact fun _ h=>nomatch h
 | mem g ht he hg hd ih=>exact fun _ _=>.mem g ht he hg hd
 | sl hc hk hm ih =>
  rename_i tk _ _
  intro α' hp
  refine .sl hc ?_ fun hn=>ih hn α' rfl
  cases tk<;>first|exact hk|cases hp
 | ep g hg hd ih=>exact fun _ _=>.ep g hg hd
 | px=>exact fun _ h=>nomatch h
 | p=>exact fun _ h=>nomatch h
 | ar=>exact fun _ h=>nomatch h
 | fn ha hb hx hy =>
  rename_i a b _ _ _ _
  intro α' hp
  cases a with
  | cons _ _=>cases hp
  | nil=>cases b with
   | cons _ _=>cases hp
   | nil=>exact .fn ha hb (fun j d v h=>by simp at h) fun j d v h=>by simp at h
 | mp=>exact fun _ h=>nomatch h
 | ifc hx ih =>
  rename_i d _
  intro α' hp
  cases d<;>first|exact .ifc (ih α' rfl)|cases hp
 | y=>exact fun _ h=>nomatch h
 | any=>exact fun _ _=>.any
theorem CkOk.one{c:CK}{d:D}(h:CkOk c d):d.one=true:=by
 cases c with
 | i k=>obtain⟨n,rfl|rfl⟩:=h<;>rfl
 | b=>obtain⟨n,rfl|rfl⟩:=h<;>rfl
 | s=>obtain⟨n,rfl|rfl⟩:=h<;>rfl
 | sl t=>obtain⟨kn,l,tk,rfl⟩:=h;rfl
 | o=>exact h
theorem etaC_ok{c:CK}{d:D}{x:Value}(hc:CkOk c d)(h:Den T I α d x):Den T I α (etaC c d) x:=by
 cases c with
 | i k=>obtain⟨n,rfl|rfl⟩:=hc<;>cases h<;>exact .v rfl
 | b=>obtain⟨n,rfl|rfl⟩:=hc<;>cases h<;>exact .v rfl
 | s=>obtain⟨n,rfl|rfl⟩:=hc<;>cases h<;>exact .v rfl
 | sl t =>
  obtain⟨kn,l,tk,rfl⟩:=hc
  cases h with
  | sl hc hk hm=>exact .sl hc trivial hm
 | o=>exact h
theorem etaL_get:∀ (ks:List CK)(d:D)(j i:Nat),(etaL ks d j)[i]?=ks[i]?.map fun c=>etaC c (d.cell (j+i))
 | [],_,_,_=>by simp [etaL]
 | c::r,d,j,0=>by simp [etaL]
 | c::r,d,j,i+1=>by
  simp only [etaL,List.getElem?_cons_succ,etaL_get r d (j+1) i]
  rw [show j+1+i=j+(i+1) by omega]
theorem etaL_len:∀ (ks:List CK)(d:D)(j:Nat),(etaL ks d j).length=ks.length
 | [],_,_=>rfl
 | _::r,d,j=>by simp [etaL,etaL_len r]
theorem cells_one{d:D}(h:∀ l,d≠.agg l):d.cells=[d]:=by
 cases d<;>first|rfl|exact absurd rfl (h _)
theorem SzOk.len{t:Ty}{d:D}(h:SzOk t d):d.cells.length=t.n:=by
 unfold SzOk at h
 split at h
 ·obtain⟨l,rfl,h2⟩:=h;exact h2
 rw [cells_one h.1,h.2];rfl
theorem eta_ok{t:Ty}{d:D}{x:Value}(he:ElOk t d)(h:Den T I α d x):Den T I α (eta t d) x:=by
 obtain⟨hs,hk,_⟩:=he
 have hlen:=hs.len
 unfold SzOk at hs
 unfold eta
 split
 ·rename_i hr
  rw [hr]at hs
  obtain⟨l,rfl,hl⟩:=hs
  cases h with
  | agg hsz hd =>
   refine .agg (by rw [etaL_len];show t.n=_;omega) fun j e y h1 h2=>?_
   rw [etaL_get,Nat.zero_add]at h1
   cases hc:t.ks[j]? with
   | none=>rw [hc]at h1;cases h1
   | some c =>
    rw [hc]at h1
    obtain rfl:=Option.some.inj h1
    have hj:j<l.length:=by rw [hl];exact(List.getElem?_eq_some_iff.1 hc).1
    have hcell:(D.agg l).cell j=l[j]:=by simp [D.cell,D.cells,List.getD_eq_getElem?_getD,List.getElem?_eq_getElem hj]
    rw [hcell]
    exact etaC_ok (hk j c l[j] hc (List.getElem?_eq_getElem hj)) (hd j _ _ (List.getElem?_eq_getElem hj) h2)
 rename_i hr
 rw [hr]at hs
 have h1:t.ks.length=1:=hs.2
 match hks:t.ks with
 | [c]=>exact etaC_ok (hk 0 c d (by rw [hks];rfl) (by rw [cells_one hs.1];rfl)) h
 | []=>rw [hks]at h1;cases h1
 | _::_::_=>rw [hks]at h1;simp at h1
theorem Den.one{d:D}{x:Value}(h:Den T I α d x)(h1:d.one=true):x.oneCell'=true:=by
 cases h<;>first|assumption|rfl|cases h1
theorem Den.cells1{d:D}{x:Value}(h:Den T I α d x)(h1:d.one=true):x.cells=#[x]:=by
 have:=h.one h1
 cases x<;>first|rfl|simp [Value.oneCell']at this
end
end Z
end Go.Proofs.YtmgcclhbbhbmcaaGreat
namespace Go.Proofs.YtmgcclhbbhbmcaaGreat
open Go Go.RowKit
def dstOf(ops:Array Oper)(i:Nat):Option Tmp:=(ops[i]?).bind (·.dst)
theorem count_set:∀ (l:List Bool)(i:Nat)(h:i<l.length),l[i]=false→((l.set i true).filter (! ·)).length+1=(l.filter (! ·)).length
 | [],_,h,_=>by simp at h
 | b::l,0,_,hb=>by
  have:b=false:=hb
  subst this
  simp
 | b::l,i+1,h,hb=>by
  have ih:=count_set l i (by simpa using h) (by simpa using hb)
  cases b<;>simp_all
section
variable {P:Program}{ops:Array Oper}{Q:Exit→Act→World→Prop}
end
def notDst(ops:List Oper)(t:Nat):Bool:=ops.all fun o=>o.dst != some t
def OpOb(P:Program)(l:List Oper)(Q:Exit→Act→World→Prop)(a0:Act)(spec:Nat→Value→World→Prop)(F:World→Prop)(stp:World→World→Prop)(i:Nat)(o:Oper):Prop :=
 ∀ (b:Act) (W:World) (K:Act→World→Prop),(∀ t,notDst l t=true→b.eval (.tmp t)=a0.eval (.tmp t)) →
  (∀ e∈o.after,Region.binds .any e=true→∀ d,dstOf l.toArray e.on=some d→spec e.on (b.eval (.tmp d)) W)→F W →
  (∀ v W',(o.dst≠none→spec i v W')→F W'→stp W W'→K (b.put o.dst v) W') →
  if Region.wanted o (yielded l.toArray b.tmps)=true then o.wp P b W K Q else K (b.put o.dst undef) W
def OpsOb(P:Program)(l:List Oper)(Q:Exit→Act→World→Prop)(a0:Act)(spec:Nat→Value→World→Prop)(F:World→Prop)(stp:World→World→Prop):Nat→List Oper→Prop
 | _,[]=>True
 | i,o::r=>OpOb P l Q a0 spec F stp i o∧OpsOb P l Q a0 spec F stp (i+1) r
theorem OpsOb.get{P:Program}{l:List Oper}{Q:Exit→Act→World→Prop}{a0:Act}{spec:Nat→Value→World→Prop}{F:World→Prop}{stp:World→World→Prop} :
 ∀ {r:List Oper} {k j:Nat} {o:Oper},OpsOb P l Q a0 spec F stp k r→r[j]?=some o→OpOb P l Q a0 spec F stp (k+j) o
 | [],_,_,_,_,h=>by simp at h
 | _::_,_,0,_,h,ho=>by
  obtain rfl:=by simpa using ho
  exact h.1
 | _::r,k,j+1,_,h,ho=>by
  have:=OpsOb.get (r:=r) (k:=k+1) (j:=j) h.2 (by simpa using ho)
  rwa [show k+1+j=k+(j+1) by omega]at this
section
variable {P:Program}{ops:Array Oper}{Q:Exit→Act→World→Prop}
end
def upd(c:Nat→Bool)(i:Nat):Nat→Bool:=fun j=>if j=i then true else c j
def JOb(P:Program)(l:List Oper)(Q:Exit→Act→World→Prop)(a0:Act)(J:(Nat→Bool)→Act→World→Prop)(i:Nat)(o:Oper):Prop :=
 ∀ (c:Nat→Bool) (b:Act) (W:World) (K:Act→World→Prop),(∀ t,notDst l t=true→b.eval (.tmp t)=a0.eval (.tmp t))→b.tmps.size=a0.tmps.size→J c b W→c i=false→(∀ e∈o.after,Region.binds .any e=true→c e.on=true) →
  (∀ v W',J (upd c i) (b.put o.dst v) W'→K (b.put o.dst v) W')→if Region.wanted o (yielded l.toArray b.tmps)=true then o.wp P b W K Q else K (b.put o.dst undef) W
def JObs(P:Program)(l:List Oper)(Q:Exit→Act→World→Prop)(a0:Act)(J:(Nat→Bool)→Act→World→Prop):Nat→List Oper→Prop
 | _,[]=>True
 | i,o::r=>JOb P l Q a0 J i o∧JObs P l Q a0 J (i+1) r
theorem JObs.get{P:Program}{l:List Oper}{Q:Exit→Act→World→Prop}{a0:Act}{J:(Nat→Bool)→Act→World→Prop} :
 ∀ {r:List Oper} {k j:Nat} {o:Oper},JObs P l Q a0 J k r→r[j]?=some o→JOb P l Q a0 J (k+j) o
 | [],_,_,_,_,h=>by simp at h
 | _::_,_,0,_,h,ho=>by
  obtain rfl:=by simpa using ho
  exact h.1
 | _::r,k,j+1,_,h,ho=>by
  have:=JObs.get (r:=r) (k:=k+1) (j:=j) h.2 (by simpa using ho)
  rwa [show k+1+j=k+(j+1) by omega]at this
end Go.Proofs.YtmgcclhbbhbmcaaGreat
namespace Go.Proofs.YtmgcclhbbhbmcaaGreat
open Go Go.RowKit
inductive CT where
 | cells (t:TypeId)
 | map (k:Nat) (ag:Bool)
instance:Coe TypeId CT:=⟨CT.cells⟩
structure Ch where
 id:Nat
 c:Array Value
 t:CT
def elV(ag:Bool)(cs:List Value):Value:=if ag then .agg cs.toArray else cs.headD undef
def bornOf:Value→Nat
 | .int _ i=>i.toNat
 | _=>0
def mapEs(k:Nat)(ag:Bool):Nat→List Value→List MapEntry
 | 0,_=>[]
 | n+1,xs=>⟨xs.headD undef,elV ag ((xs.drop 1).take k),bornOf (xs.getD (k+1) undef)⟩::mapEs k ag n (xs.drop (k+2))
def mapObj(k:Nat)(ag:Bool)(c:Array Value):Obj:=.map (mapEs k ag ((c.toList.length-1) / (k+2)) (c.toList.drop 1)).toArray (bornOf (c.toList.headD undef))
def Ch.obj(e:Ch):Obj:=match e.t with
 | .cells t=>.cells e.c t (0,0)
 | .map k ag=>mapObj k ag e.c
structure Ow where
 id:Nat
 o:Obj
def Ow.blk(o:Ow):List Nat:=[o.id]
def muts(hs:List Ch)(os:List Ow):List Nat:=hs.map (·.id)++os.flatMap Ow.blk
structure Same(ids:List Nat)(W W':World):Prop where
 size:W.heap.size≤W'.heap.size
 block:∀ b,b<W.heap.size→b∉ids→W'.heap[b]?=W.heap[b]?
theorem Same.refl(ids:List Nat)(W:World):Same ids W W:=⟨Nat.le_refl _,fun _ _ _=>rfl⟩
theorem Same.trans'{ids ids':List Nat}{W W1 W2:World}(h:Same ids W W1)(h':Same ids' W1 W2)(hi:∀ b,b<W.heap.size→b∉ids→b∉ids'):Same ids W W2 :=
 ⟨Nat.le_trans h.size h'.size,fun b hb hn=>(h'.block b (Nat.lt_of_lt_of_le hb h.size) (hi b hb hn)).trans (h.block b hb hn)⟩
theorem Same.trans{ids:List Nat}{W W1 W2:World}(h:Same ids W W1)(h':Same ids W1 W2):Same ids W W2:=h.trans' h' fun _ _ h=>h
theorem Same.below{ids:List Nat}{W W':World}(h:Below W.heap.size W W'):Same ids W W':=⟨h.size,fun b hb _=>h.block b hb⟩
theorem Same.cell{ids:List Nat}{W W':World}(h:Same ids W W'){p:Addr}(hp:p.block<W.heap.size)(hn:p.block∉ids):W'.cell? p=W.cell? p :=
 World.cell?_of_block (h.block p.block hp hn)
structure Org where
 w:World
 ms:List Nat
 rt:World→Prop
 rf:Nat→Prop
instance:Coe World Org:=⟨fun w=>⟨w,[],fun _=>False,fun _=>False⟩⟩
structure Old(w0:Org)(W:World):Prop where
 os:W.os=w0.w.os
 tape:W.tape=w0.w.tape
 output:W.output=w0.w.output
 size:w0.w.heap.size≤W.heap.size
 block:∀ b,b<w0.w.heap.size→b∉w0.ms→W.heap[b]?=w0.w.heap[b]?
theorem Old.trans{w0:Org}{W W':World}(h:Old w0 W){B:Nat}(hb:Below B W W')(hB:w0.w.heap.size≤B):Old w0 W' :=
 ⟨hb.os.trans h.os,hb.tape.trans h.tape,hb.output.trans h.output,Nat.le_trans h.size hb.size,fun b h1 h2=>(hb.block b (by omega)).trans (h.block b h1 h2)⟩
structure St(w0:Org)(hs:List Ch)(os:List Ow)(ps:List (World→Prop))(W:World):Prop where
 old:Old w0 W
 blk:∀ e∈hs,(w0.w.heap.size≤e.id∨e.id∈w0.ms)∧W.heap[e.id]?=some e.obj
 own:∀ o∈os,w0.w.heap.size≤o.id∧W.heap[o.id]?=some o.o
 nodup:(muts hs os).Nodup
 pers:∀ p∈ps,∀ W',Same (muts hs os) W W'→p W'
namespace St
variable {w0:Org}{W W':World}{hs hs':List Ch}{os os':List Ow}{ps ps':List (World→Prop)}
theorem below{w:World}{rt:World→Prop}{rf:Nat→Prop}(h:St ⟨w,[],rt,rf⟩ hs os ps W):Below w.heap.size w W:=⟨h.old.os,h.old.tape,h.old.output,h.old.size,fun b hb=>h.old.block b hb (by simp)⟩
theorem mut_lt(h:St w0 hs os ps W){b:Nat}(hb:b∈muts hs os):(w0.w.heap.size≤b∨b∈w0.ms)∧b<W.heap.size:=by
 rcases List.mem_append.1 hb with hb|hb
 ·obtain⟨e,he,rfl⟩:=List.mem_map.1 hb
  have:=h.blk e he
  exact⟨this.1,(Array.getElem?_eq_some_iff.1 this.2).1⟩
 obtain⟨o,ho,hb⟩:=List.mem_flatMap.1 hb
 obtain rfl:b=o.id:=by simpa [Ow.blk]using hb
 have:=h.own o ho
 exact⟨.inl this.1,(Array.getElem?_eq_some_iff.1 this.2).1⟩
theorem at_(h:St w0 hs os ps W){k:Nat}{c:Array Value}{t:TypeId}(he:(⟨k,c,t⟩:Ch)∈hs):W.heap[k]?=some (.cells c t (0,0)):=(h.blk _ he).2
theorem ge_(h:St w0 hs os ps W){k:Nat}{c:Array Value}{t:TypeId}(he:(⟨k,c,t⟩:Ch)∈hs):w0.w.heap.size≤k∨k∈w0.ms:=(h.blk _ he).1
theorem cell(h:St w0 hs os ps W){k:Nat}{c:Array Value}{t:TypeId}(he:(⟨k,c,t⟩:Ch)∈hs){j:Nat}{v:Value}(hv:c[j]?=some v):W.cell? ⟨k,j,none⟩=some v:=by
 rw [cell_of_row W k j c t (0,0) (h.at_ he),hv]
theorem fact(h:St w0 hs os ps W){p:World→Prop}(hp:p∈ps):p W:=h.pers p hp W (.refl _ _)
theorem step(h:St w0 hs os ps W)(hb:Below W.heap.size W W'):St w0 hs os ps W' where
 old:=h.old.trans hb h.old.size
 blk e he:=⟨(h.blk e he).1,(hb.block _ (Array.getElem?_eq_some_iff.1 (h.blk e he).2).1).trans (h.blk e he).2⟩
 own o ho:=⟨(h.own o ho).1,(hb.block _ (Array.getElem?_eq_some_iff.1 (h.own o ho).2).1).trans (h.own o ho).2⟩
 nodup:=h.nodup
 pers p hp W2 h2:=h.pers p hp W2 ((Same.below hb).trans h2)
theorem drew(h:St w0 hs os ps W):St w0 hs os ps W.drew:=h.step (Below.refl _ _).drew
theorem below_alloc(W:World)(o:Obj):Below W.heap.size W (W.alloc o):=(Below.refl _ _).alloc (Nat.le_refl _) _
theorem new(h:St w0 hs os ps W)(c:Array Value)(t:TypeId):St w0 (⟨W.heap.size,c,t⟩::hs) os ps (W.alloc (.cells c t)):=by
 have h':=h.step (below_alloc W (.cells c t))
 refine⟨h'.old,fun e he=>?_,h'.own,?_,fun p hp W2 h2=>h.pers p hp W2 ?_⟩
 ·rcases List.mem_cons.1 he with rfl|he
  ·exact⟨.inl h.old.size,heap_alloc_last W _⟩
  exact h'.blk e he
 ·show(W.heap.size::muts hs os).Nodup
  exact List.nodup_cons.2 ⟨fun hm=>by have:=(h.mut_lt hm).2;omega,h.nodup⟩
 refine(Same.below (below_alloc W (.cells c t))).trans' h2 fun b hb hn hm=>?_
 have hm':b∈W.heap.size::muts hs os:=hm
 rcases List.mem_cons.1 hm' with rfl|hm'
 ·omega
 exact hn hm'
theorem keep(h:St w0 hs os ps W){p:World→Prop}(hp:∀ W',Same (muts hs os) W W'→p W'):St w0 hs os (p::ps) W :=
 ⟨h.old,h.blk,h.own,h.nodup,fun q hq=>by
  rcases List.mem_cons.1 hq with rfl|hq
  ·exact hp
  exact h.pers q hq⟩
end St
theorem block_of_add(a:Addr)(n:Nat):(a.add n).block=a.block:=by unfold Addr.add;split<;>rfl
theorem add_of_add(a:Addr)(i j:Nat):(a.add i).add j=a.add (i+j):=by
 unfold Addr.add
 by_cases hi:i=0<;>by_cases hj:j=0<;>simp [hi,hj,Nat.add_assoc]
def Rd(W:World)(size:Nat)(A:Option Addr)(n:Nat)(xs:List Value):Prop :=
 xs.length=n*size∧(0<n→∃ ad,A=some ad∧ad.block<W.heap.size∧∀ j u,xs[j]?=some u→W.cell? (ad.add j)=some u)
section
variable {W W':World}{size n:Nat}{A:Option Addr}{xs:List Value}
theorem Rd.at_{k:Nat}(h:Rd W 1 A n xs)(hk:k<n):∃ ad u,A=some ad∧xs[k]?=some u∧W.cell? (ad.add k)=some u:=by
 obtain⟨ad,e,hb,hc⟩:=h.2 (by omega)
 have hl:k<xs.length:=by have:=h.1;omega
 exact⟨ad,xs[k],e,List.getElem?_eq_getElem hl,hc k _ (List.getElem?_eq_getElem hl)⟩
theorem Rd.same{ids:List Nat}(h:Rd W size A n xs)(hs:Same ids W W')(hn:∀ ad,A=some ad→ad.block∉ids):Rd W' size A n xs :=
 ⟨h.1,fun h0=>by
  obtain⟨ad,e,hb,hc⟩:=h.2 h0
  exact⟨ad,e,Nat.lt_of_lt_of_le hb hs.size,fun j u hu=>(hs.cell (p:=ad.add j) (by rw [block_of_add];exact hb) (by rw [block_of_add];exact hn ad e)).trans (hc j u hu)⟩⟩
theorem Rd.same0(h:Rd W size A n xs)(hs:Same [] W W'):Rd W' size A n xs:=h.same hs fun _ _ h=>nomatch h
theorem Rd.below(h:Rd W size A n xs)(hb:Below W.heap.size W W'):Rd W' size A n xs:=h.same0 (.below hb)
theorem Rd.cut(h:Rd W size A n xs){k cap:Nat}(hk:k≤n)(hc:n≤cap) :
 Rd W size (if cap=k then A else A.map (·.add (k*size))) (n-k) (xs.drop (k*size)):=by
 refine⟨by rw [List.length_drop,h.1,Nat.sub_mul],fun hn=>?_⟩
 obtain⟨ad,rfl,hb,hcell⟩:=h.2 (by omega)
 rw [if_neg (by omega)]
 refine⟨ad.add (k*size),rfl,by rw [block_of_add];exact hb,fun j u hu=>?_⟩
 rw [add_of_add]
 exact hcell _ u (by rw [← hu,List.getElem?_drop])
theorem Rd.take(h:Rd W size A n xs){k:Nat}(hk:k≤n):Rd W size A k (xs.take (k*size)):=by
 refine⟨by rw [List.length_take,h.1];exact Nat.min_eq_left (Nat.mul_le_mul_right _ hk),fun hn=>?_⟩
 obtain⟨ad,rfl,hb,hcell⟩:=h.2 (by omega)
 refine⟨ad,rfl,hb,fun j u hu=>hcell j u ?_⟩
 rw [List.getElem?_take]at hu
 split at hu
 ·exact hu
 cases hu
end
end Go.Proofs.YtmgcclhbbhbmcaaGreat
namespace Go.Proofs.YtmgcclhbbhbmcaaGreat
open Go Go.RowKit
def zeroOf(P:Program)(t:TypeId):Option Value:=(P.info? t).bind (·.zero)
def szOf(P:Program)(t:TypeId):Option Nat:=(P.info? t).map (·.size)
def rowOf(P:Program)(t:TypeId):Option Bool:=(P.underlying t).map fun d=>match d with|.struct _|.array _ _=>true|_=>false
section
variable {P:Program}
theorem run_zeroOf{t:TypeId}{z:Value}(h:zeroOf P t=some z)(w:World):(zeroValue t).run P w=.ok z w:=by
 unfold zeroOf at h
 cases hq:P.info? t with
 | none=>simp [hq]at h
 | some i =>
  have hz:i.zero=some z:=by simpa [hq]using h
  simp [zeroValue,typeInfo,hq,hz]
theorem run_szOf{t:TypeId}{n:Nat}(h:szOf P t=some n)(w:World):(sizeOf t).run P w=.ok n w:=by
 unfold szOf at h
 cases hq:P.info? t with
 | none=>simp [hq]at h
 | some i =>
  have hz:i.size=n:=by simpa [hq]using h
  simp [sizeOf,typeInfo,hq,hz]
theorem run_rowOf{t:TypeId}{b:Bool}(h:rowOf P t=some b)(w:World):(isAgg t).run P w=.ok b w:=by
 unfold rowOf at h
 cases hq:P.underlying t with
 | none=>simp [hq]at h
 | some d =>
  rw [hq]at h
  unfold isAgg
  rw [Sem.run_bind,run_underlying hq w]
  cases d<;>simp_all
theorem add_zero_addr(k j i:Nat):(⟨k,j,none⟩:Addr).add i=⟨k,j+i,none⟩:=by unfold Addr.add;split<;>simp_all
theorem run_load_sub{w:World}{k off n:Nat}{c:Array Value}{t ty:TypeId}(hg:w.heap[k]?=some (.cells c t (0,0)))(hr:rowOf P ty=some true)(hs:szOf P ty=some n)(hlt:off+n≤c.size) :
 (loadVar ty ⟨k,off,none⟩).run P w=.ok (.agg (c.extract off (off+n))) w:=by
 have hl:=run_loadCells_list (P:=P) w ⟨k,off,none⟩ (c.extract off (off+n)).toList (fun j v hv=>by
  rw [add_zero_addr,cell_of_row w k _ c t (0,0) hg]
  have:(c.extract off (off+n))[j]?=some v:=by rw [← hv,Array.getElem?_toList]
  rw [Array.getElem?_extract]at this
  split at this
  ·exact this
  cases this)
 have he:(c.extract off (off+n)).toList.length=n:=by simp;omega
 rw [he]at hl
 simp only [Array.toArray_toList]at hl
 simp [loadVar,Sem.run_bind,run_rowOf hr,run_szOf hs,hl]
theorem run_load_cell{w:World}{ad:Addr}{v:Value}{ty:TypeId}(hr:rowOf P ty=some false)(hc:w.cell? ad=some v):(loadVar ty ad).run P w=.ok v w:=by
 simp [loadVar,Sem.run_bind,run_rowOf hr,hc]
def splice(c:Array Value)(off:Nat)(cs:Array Value):Array Value:=(c.toList.take off++cs.toList++c.toList.drop (off+cs.size)).toArray
theorem splice_size{c cs:Array Value}{off:Nat}(h:off+cs.size≤c.size):(splice c off cs).size=c.size:=by
 unfold splice
 simp
 omega
end
inductive Upd (k:Nat) (c:Array Value) (t:CT) (c':Array Value):List Ch→List Ch→Prop
 | here {hs:List Ch}:Upd k c t c' (⟨k,c,t⟩::hs) (⟨k,c',t⟩::hs)
 | there {e:Ch} {hs hs':List Ch}:Upd k c t c' hs hs'→Upd k c t c' (e::hs) (e::hs')
theorem Upd.mem{k:Nat}{c c':Array Value}{t:CT}{hs hs':List Ch}(h:Upd k c t c' hs hs'):(⟨k,c,t⟩:Ch)∈hs:=by
 induction h with
 | here=>exact List.mem_cons_self ..
 | there _ ih=>exact List.mem_cons_of_mem _ ih
theorem Upd.ids{k:Nat}{c c':Array Value}{t:CT}{hs hs':List Ch}(h:Upd k c t c' hs hs'):hs'.map (·.id)=hs.map (·.id):=by
 induction h with
 | here=>rfl
 | there _ ih=>simp [ih]
theorem Upd.of{k:Nat}{c c':Array Value}{t:CT}{hs hs':List Ch}(h:Upd k c t c' hs hs')(hn:(hs.map (·.id)).Nodup):∀ e∈hs',(e=⟨k,c',t⟩)∨(e∈hs∧e.id≠k):=by
 induction h with
 | here =>
  intro e he
  simp only [List.map_cons,List.nodup_cons]at hn
  rcases List.mem_cons.1 he with rfl|he
  ·exact .inl rfl
  exact .inr ⟨List.mem_cons_of_mem _ he,fun h=>hn.1 (h▸List.mem_map_of_mem he)⟩
 | there hu ih =>
  intro e he
  simp only [List.map_cons,List.nodup_cons]at hn
  rcases List.mem_cons.1 he with rfl|he
  ·exact .inr ⟨List.mem_cons_self ..,fun h=>hn.1 (by rw [h];exact List.mem_map_of_mem (f:=(·.id)) hu.mem)⟩
  rcases ih hn.2 e he with h|⟨h,h'⟩
  ·exact .inl h
  exact .inr ⟨List.mem_cons_of_mem _ h,h'⟩
theorem heap_setRow_other(W:World)(k b:Nat)(c:Array Value)(h:b≠k):(W.setRow k c).heap[b]?=W.heap[b]?:=by
 unfold World.setRow
 rw [Array.getElem?_modify,if_neg (fun e=>h e.symm)]
theorem Old.row{w0:Org}{W:World}(h:Old w0 W){k:Nat}(hk:w0.w.heap.size≤k∨k∈w0.ms)(c:Array Value):Old w0 (W.setRow k c):=by
 refine⟨h.os,h.tape,h.output,by simpa using h.size,fun b h1 h2=>?_⟩
 have hne:b≠k:=by
  intro e
  subst e
  rcases hk with hk|hk
  ·omega
  exact h2 hk
 exact(heap_setRow_other W k b c hne).trans (h.block b h1 h2)
theorem St.put{w0:Org}{W:World}{hs hs':List Ch}{os:List Ow}{ps:List (World→Prop)}(h:St w0 hs os ps W){k:Nat}{c c':Array Value}{t:TypeId}(hu:Upd k c t c' hs hs'):St w0 hs' os ps (W.setRow k c'):=by
 have hm:muts hs' os=muts hs os:=by unfold muts;rw [hu.ids]
 have hat:=h.at_ hu.mem
 have hn:(hs.map (·.id)).Nodup:=(List.nodup_append.1 h.nodup).1
 have hkm:k∈hs.map (·.id):=List.mem_map_of_mem (f:=(·.id)) hu.mem
 have hko:k∉os.flatMap Ow.blk:=fun h2=>(List.nodup_append.1 h.nodup).2.2 k hkm k h2 rfl
 have hblk:(W.setRow k c').heap[k]?=some (.cells c' t (0,0)):=setRow_heap W k c c' t _ hat
 refine⟨h.old.row (h.ge_ hu.mem) c',fun e he=>?_,fun o ho=>?_,by rw [hm];exact h.nodup,fun p hp W2 h2=>h.pers p hp W2 ?_⟩
 ·rcases hu.of hn e he with rfl|⟨he,hne⟩
  ·exact⟨h.ge_ hu.mem,hblk⟩
  exact⟨(h.blk e he).1,(heap_setRow_other W k _ c' hne).trans (h.blk e he).2⟩
 ·exact⟨(h.own o ho).1,(heap_setRow_other W k _ c' fun e=>hko (e▸List.mem_flatMap.2 ⟨o,ho,by simp [Ow.blk]⟩)).trans (h.own o ho).2⟩
 rw [hm]at h2
 refine Same.trans ⟨by simp,fun b hb hnb=>heap_setRow_other W k b c' fun e=>hnb ?_⟩ h2
 subst e
 exact List.mem_append.2 (.inl hkm)
section
variable {P:Program}{a:Act}{w0:Org}{W:World}{K:Act→World→Prop}{Q:Exit→Act→World→Prop}{o:Oper}{hs hs':List Ch}{os:List Ow}{ps:List (World→Prop)}
theorem fold_get(off i:Nat):∀ (l:List Value)(k:Nat)(c:Array Value),((l.zipIdx k).foldl (fun cs p=>cs.setIfInBounds (off+p.2) p.1) c)[i]?=if off+k≤i∧i<off+k+l.length∧i<c.size then l[i-(off+k)]? else c[i]?
 | [],k,c=>by simp;intro h1 h2;omega
 | v::l,k,c=>by
  simp only [List.zipIdx_cons,List.foldl_cons]
  rw [fold_get off i l (k+1)]
  simp only [Array.size_setIfInBounds,List.length_cons]
  by_cases h1:i=off+k
  ·subst h1
   rw [if_neg (by omega)]
   by_cases h2:off+k<c.size
   ·rw [if_pos ⟨by omega,by omega,h2⟩];simp [h2]
   rw [if_neg (by omega)];simp [h2]
  rw [Array.getElem?_setIfInBounds_ne (by omega)]
  by_cases h2:off+(k+1)≤i∧i<off+(k+1)+l.length∧i<c.size
  ·rw [if_pos h2,if_pos ⟨by omega,by omega,h2.2.2⟩,show i-(off+k)=(i-(off+(k+1)))+1 by omega,List.getElem?_cons_succ]
  rw [if_neg h2,if_neg (by omega)]
theorem fold_splice(off:Nat)(c cs:Array Value)(h:off+cs.size≤c.size):(cs.zipIdx.foldl (fun a p=>a.setIfInBounds (off+p.2) p.1) c)=splice c off cs:=by
 rw [← Array.foldl_toList,Array.toList_zipIdx]
 apply Array.ext_getElem?
 intro i
 rw [fold_get]
 unfold splice
 simp only [Nat.add_zero,Array.length_toList,Array.getElem?_toList,List.getElem?_toArray,List.getElem?_append,List.length_append,List.length_take]
 by_cases h1:i<off
 ·rw [if_neg (by omega),if_pos (by omega),if_pos (by omega)]
  simp [h1]
 by_cases h2:i<off+cs.size
 ·rw [if_pos ⟨by omega,h2,by omega⟩,if_pos (by omega),if_neg (by omega),show i-min off c.size=i-off by omega]
 rw [if_neg (by omega),if_neg (by omega),List.getElem?_drop,show off+cs.size+(i-(min off c.size+cs.size))=i by omega,Array.getElem?_toList]
theorem fill_splice{place:Nat→Option (Nat×Nat)}{c:Array Value}{i off:Nat}{v:Value}{rest:List (Nat×Value)}(hp:place i=some (off,v.cells.size))(h:off+v.cells.size≤c.size) :
 Instr.fill place c ((i,v)::rest)=Instr.fill place (splice c off v.cells) rest:=by
 simp only [Instr.fill,hp]
 rw [if_neg (by simp;omega),fold_splice _ _ _ h]
def placesOf(P:Program)(t:TypeId):Option (List (Nat×Nat)):=match P.underlying t with
 | some (.struct fs)=>fs.toList.mapM (fun f=>(P.info? f.type).map fun i=>(f.offset,i.size))
 | _=>none
theorem built_struct{t:TypeId}{ps:List (Nat×Nat)}{z:Value}{parts:List (Nat×Value)}(hps:placesOf P t=some ps)(hz:zeroOf P t=some z):P.built t parts=Instr.fill (ps.toArray[·]?) z.cells parts:=by
 unfold placesOf at hps
 unfold zeroOf at hz
 unfold Program.built
 cases hq:P.info? t with
 | none=>simp [hq]at hz
 | some i =>
  have hz':i.zero=some z:=by simpa [hq]using hz
  cases hu:P.underlying t with
  | none=>simp [hu]at hps
  | some d =>
   rw [hu]at hps
   cases d<;>simp at hps ⊢
   simp [hz',hps]
def flatL:List Value→List Value
 | []=>[]
 | v::l=>v.cells.toList++flatL l
theorem flatL_len{sz:Nat}:∀ {vs:List Value},(∀ v∈vs,v.cells.size=sz)→(flatL vs).length=vs.length*sz
 | [],_=>by simp [flatL]
 | v::l,h=>by
  have h1:=h v (List.mem_cons_self ..)
  have h2:=flatL_len (vs:=l) fun u hu=>h u (List.mem_cons_of_mem _ hu)
  simp only [flatL,List.length_append,Array.length_toList,List.length_cons,h1,h2,Nat.succ_mul]
  omega
theorem splice_list{l m:List Value}{off:Nat}(h:off=l.length)(cs:Array Value) (_hm:cs.size≤m.length):splice (l++m).toArray off cs=(l++cs.toList++m.drop cs.size).toArray:=by
 subst h
 unfold splice
 simp
theorem fill_seq{sz:Nat}:∀ (vs:List Value)(k:Nat)(l m:List Value),(∀ v∈vs,v.cells.size=sz)→l.length=k*sz→m.length=vs.length*sz →
 Instr.fill (fun i=>some (i*sz,sz)) (l++m).toArray (vs.zipIdx k |>.map fun p=>(p.2,p.1))=some (l++flatL vs).toArray
 | [],k,l,m,_,_,hm=>by
  have:m=[]:=List.eq_nil_of_length_eq_zero (by simpa using hm)
  subst this
  simp [Instr.fill,flatL]
 | v::vs,k,l,m,h,hl,hm=>by
  have h1:=h v (List.mem_cons_self ..)
  have hm':sz+vs.length*sz=m.length:=by rw [hm,List.length_cons,Nat.succ_mul];omega
  simp only [List.zipIdx_cons,List.map_cons]
  rw [fill_splice (off:=k*sz) (by rw [h1]) (by simp;omega),splice_list hl.symm _ (by omega)]
  have:=fill_seq vs (k+1) (l++v.cells.toList) (m.drop v.cells.size) (fun u hu=>h u (List.mem_cons_of_mem _ hu)) (by simp [hl,h1,Nat.succ_mul]) (by simp;omega)
  rw [this]
  simp [flatL]
def fieldOff(P:Program)(t:TypeId)(f:Nat):Option Nat:=match P.underlying t with
 | some (.struct fs)=>match fs[f]? with
  | some fd=>match szOf P fd.type with
   | some (_+1)=>some fd.offset
   | _=>none
  | none=>none
 | _=>none
def arrOf(P:Program)(t:TypeId):Option (Nat×TypeId):=match P.underlying t with
 | some (.array n e)=>some (n,e)
 | _=>none
theorem arrOf_eq{t e:TypeId}{n:Nat}(h:arrOf P t=some (n,e)):P.underlying t=some (.array n e):=by
 unfold arrOf at h
 split at h
 ·rename_i hu
  simp only [Option.some.injEq,Prod.mk.injEq]at h
  obtain⟨rfl,rfl⟩:=h
  exact hu
 cases h
def fldOf(P:Program)(t:TypeId)(f:Nat):Option (Nat×TypeId):=match P.underlying t with
 | some (.struct fs)=>fs[f]?.map fun d=>(d.offset,d.type)
 | _=>none
theorem fldOf_eq{t e:TypeId}{f off:Nat}(h:fldOf P t f=some (off,e)):∃ fs d,P.underlying t=some (.struct fs)∧fs[f]?=some d∧d.offset=off∧d.type=e:=by
 unfold fldOf at h
 split at h
 ·rename_i fs hu
  cases hf:fs[f]? with
  | none=>rw [hf]at h;cases h
  | some d =>
   rw [hf]at h
   simp at h
   exact⟨fs,d,hu,hf,h.1,h.2⟩
 cases h
def binI(op:BinOp)(k:IntKind)(i j:Int):Option Value:=match op with
 | .add=>some (.int k (k.wrap (i+j)))|.sub=>some (.int k (k.wrap (i-j)))|.mul=>some (.int k (k.wrap (i*j)))
 | .eql=>some (.bool (i == j))|.neq=>some (.bool (i != j))|.lss=>some (.bool (decide (i<j)))|.leq=>some (.bool (decide (i≤j)))|.gtr=>some (.bool (decide (i>j)))|.geq=>some (.bool (decide (i≥j)))
 | _=>none
def Cells(W:World)(ad:Addr)(cs:Array Value):Prop:=∀ (j:Nat) (u:Value),cs[j]?=some u→W.cell? (ad.add j)=some u
theorem run_load_cells{W:World}{ad:Addr}{cs:Array Value}{ty:TypeId}(hr:rowOf P ty=some true)(hs:szOf P ty=some cs.size)(hc:Cells W ad cs):(loadVar ty ad).run P W=.ok (.agg cs) W:=by
 have hl:=run_loadCells_list (P:=P) W ad cs.toList (fun j v hv=>hc j v (by simpa using hv))
 simp only [Array.length_toList,Array.toArray_toList]at hl
 simp [loadVar,Sem.run_bind,run_rowOf hr,run_szOf hs,hl]
theorem Rd.elem{size n k:Nat}{A:Option Addr}{xs:List Value}(h:Rd W size A n xs)(hk:k<n){cs:Array Value}(hcs:(xs.drop (k*size)).take size=cs.toList):∃ ad,A=some ad∧Cells W (ad.add (k*size)) cs:=by
 obtain⟨ad,e,_,hc⟩:=h.2 (by omega)
 refine⟨ad,e,fun j u hu=>?_⟩
 rw [add_of_add]
 refine hc _ u ?_
 have:cs.toList[j]?=some u:=by simpa using hu
 rw [← hcs,List.getElem?_take]at this
 split at this
 ·rw [List.getElem?_drop]at this;exact this
 cases this
variable {e0 e1 e2 e3 e4 e5 e6 e7 e8 e9:Ch}
end
end Go.Proofs.YtmgcclhbbhbmcaaGreat
namespace Go.Proofs.YtmgcclhbbhbmcaaGreat.Lax
open Go Go.RowKit
section
variable {P:Program}{ops:Array Oper}{Q:Exit→Act→World→Prop}
end
section
variable {P:Program}{a:Act}{W:World}{K:Act→World→Prop}{Q:Exit→Act→World→Prop}{o:Oper}
end
end Go.Proofs.YtmgcclhbbhbmcaaGreat.Lax
namespace Go.Proofs.YtmgcclhbbhbmcaaGreat
open Go Go.RowKit
inductive CK where
 | b|s|i (k:IntKind)
 deriving DecidableEq
def CK.fit:CK→Value→Bool
 | .b,.bool _=>true
 | .s,.string _=>true
 | .i k,.int k' _=>k == k'
 | _,_=>false
def fits:List CK→List Value→Bool
 | [],[]=>true
 | k::l,v::r=>k.fit v && fits l r
 | _,_=>false
theorem fits_len:∀ {l:List CK}{r:List Value},fits l r=true→l.length=r.length
 | [],[],_=>rfl
 | k::l,v::r,h=>by
  simp only [fits,Bool.and_eq_true]at h
  simp [fits_len h.2]
 | [],_::_,h=>by simp [fits]at h
 | _::_,[],h=>by simp [fits]at h
theorem fits_split:∀ {l l':List CK}{r:List Value},fits (l++l') r=true→fits l (r.take l.length)=true∧fits l' (r.drop l.length)=true
 | [],l',r,h=>by simpa [fits]using h
 | k::l,l',[],h=>by simp [fits]at h
 | k::l,l',v::r,h=>by
  simp only [List.cons_append,fits,Bool.and_eq_true]at h
  have:=fits_split h.2
  simp [fits,h.1,this.1,this.2]
def fieldsK(g:TypeId→Option (List CK)):Nat→List Field→Option (List CK)
 | _,[]=>some []
 | off,f::r=>if f.name = "_" ∨ f.offset≠off then none else
  match g f.type with
  | some l=>(fieldsK g (off+l.length) r).map (l++·)
  | none=>none
def kindsT(P:Program):Nat→TypeId→Option (List CK)
 | 0,_=>none
 | d+1,t=>match P.underlying t with
  | some .bool=>some [.b]
  | some (.int k)=>some [.i k]
  | some .string=>some [.s]
  | some (.array n e)=>match kindsT P d e with
   | some l=>if szOf P t=some (n*l.length)∧szOf P e=some l.length then some (List.replicate n l).flatten else none
   | none=>none
  | some (.struct fs)=>if P.stoodInHeld t=true then none else fieldsK (fun t=>match kindsT P d t with|some l=>if szOf P t=some l.length then some l else none|none=>none) 0 fs.toList
  | _=>none
def shaped(P:Program)(t:TypeId)(v:Value)(cs:List Value):Prop:=match rowOf P t with
 | some true=>v=.agg cs.toArray
 | some false=>cs=[v]
 | none=>False
section
variable {P:Program}(w:World)
def EqOk(P:Program)(dd:Nat)(t:TypeId)(l:List CK):Prop :=
 ∀ (w:World) (a b:Value) (xs ys:List Value),shaped P t a xs→shaped P t b ys→fits l xs=true→fits l ys=true→∃ r:Bool,(Op.equalIn dd t a b).run P w=.ok r w∧(r=true↔xs=ys)
theorem part_ok{t:TypeId}{n off:Nat}{cs:List Value}(hs:szOf P t=some n){b:Bool}(hr:rowOf P t=some b)(hb:b=false→n=1)(hlen:off+n≤cs.length) :
 ∃ a,(part t cs.toArray off).run P w=.ok a w∧shaped P t a ((cs.drop off).take n):=by
 cases b with
 | true =>
  refine⟨.agg ((cs.drop off).take n).toArray,?_,by simp [shaped,hr]⟩
  simp [part,Sem.run_bind,run_rowOf hr,run_szOf hs]
 | false =>
  obtain rfl:=hb rfl
  have hlt:off<cs.length:=by omega
  refine⟨cs[off],?_,?_⟩
  ·simp [part,Sem.run_bind,run_rowOf hr,hlt]
  simp only [shaped,hr]
  rw [List.drop_eq_getElem_cons hlt,List.take_succ_cons,List.take_zero]
theorem take_drop_eq{xs ys:List Value}{n:Nat}:(xs=ys)↔(xs.take n=ys.take n∧xs.drop n=ys.drop n) :=
 ⟨fun h=>by rw [h];exact⟨rfl,rfl⟩,fun⟨h1,h2⟩=>by rw [← List.take_append_drop n xs,h1,h2,List.take_append_drop]⟩
def isRowD:TypeDesc→Bool|.struct _|.array _ _=>true|_=>false
theorem rowOf_u{t:TypeId}{k:TypeDesc}(hu:P.underlying t=some k):rowOf P t=some (isRowD k):=by
 unfold rowOf
 rw [hu]
 cases k<;>rfl
theorem rowOf_of_kinds{d:Nat}{t:TypeId}{l:List CK}(h:kindsT P d t=some l):∃ b,rowOf P t=some b∧(b=false→l.length=1):=by
 cases d with
 | zero=>simp [kindsT]at h
 | succ d =>
  unfold kindsT at h
  unfold rowOf
  cases hu:P.underlying t with
  | none=>simp [hu]at h
  | some k =>
   rw [hu]at h
   cases k<;>simp at h ⊢
   all_goals (subst h;rfl)
theorem eqFields_ok{dd:Nat}{g:TypeId→Option (List CK)}(xs ys:List Value)(hg:∀ t l,g t=some l→EqOk P dd t l∧szOf P t=some l.length∧∃ b,rowOf P t=some b∧(b=false→l.length=1)) :
 ∀ (fs:List Field) (off:Nat) (l:List CK),fieldsK g off fs=some l→fits l (xs.drop off)=true→fits l (ys.drop off)=true →
  ∃ r:Bool,(Op.eqFields dd xs.toArray ys.toArray fs).run P w=.ok r w∧(r=true↔xs.drop off=ys.drop off)
 | [],off,l,h,hx,hy=>by
  obtain rfl:[]=l:=by simpa [fieldsK]using h
  have e1:=List.eq_nil_of_length_eq_zero (fits_len hx).symm
  have e2:=List.eq_nil_of_length_eq_zero (fits_len hy).symm
  exact⟨true,by simp [Op.eqFields],by simp [e1,e2]⟩
 | f::fs,off,l,h,hx,hy=>by
  unfold fieldsK at h
  split at h
  ·cases h
  rename_i hn
  have hname:f.name ≠ "_" := fun e=>hn (.inl e)
  have hoff:f.offset=off:=Classical.byContradiction fun e=>hn (.inr e)
  cases hgl:g f.type with
  | none=>rw [hgl]at h;cases h
  | some l1 =>
   rw [hgl]at h
   simp only [Option.map_eq_some_iff]at h
   obtain⟨l2,hl2,rfl⟩:=h
   obtain⟨hE,hsz,b,hr,hb⟩:=hg _ _ hgl
   obtain⟨x1,x2⟩:=fits_split hx
   obtain⟨y1,y2⟩:=fits_split hy
   rw [List.drop_drop]at x2 y2
   have lx:=fits_len x1
   have ly:=fits_len y1
   simp only [List.length_take,List.length_drop]at lx ly
   have nx:off+l1.length≤xs.length∨l1.length=0:=by omega
   have ny:off+l1.length≤ys.length∨l1.length=0:=by omega
   have hxl:off+l1.length≤xs.length∨b=true:=by
    rcases nx with h|h
    ·exact .inl h
    cases b
    ·have:=hb rfl;omega
    exact .inr rfl
   have hyl:off+l1.length≤ys.length∨b=true:=by
    rcases ny with h|h
    ·exact .inl h
    cases b
    ·have:=hb rfl;omega
    exact .inr rfl
   have px:∃ a,(part f.type xs.toArray off).run P w=.ok a w∧shaped P f.type a ((xs.drop off).take l1.length):=by
    rcases hxl with h|rfl
    ·exact part_ok w hsz hr hb h
    refine⟨.agg ((xs.drop off).take l1.length).toArray,?_,by simp [shaped,hr]⟩
    simp [part,Sem.run_bind,run_rowOf hr,run_szOf hsz]
   have py:∃ a,(part f.type ys.toArray off).run P w=.ok a w∧shaped P f.type a ((ys.drop off).take l1.length):=by
    rcases hyl with h|rfl
    ·exact part_ok w hsz hr hb h
    refine⟨.agg ((ys.drop off).take l1.length).toArray,?_,by simp [shaped,hr]⟩
    simp [part,Sem.run_bind,run_rowOf hr,run_szOf hsz]
   obtain⟨a,pa,sa⟩:=px
   obtain⟨c,pc,sc⟩:=py
   obtain⟨r1,hr1,hi1⟩:=hE w a c _ _ sa sc x1 y1
   obtain⟨r2,hr2,hi2⟩:=eqFields_ok xs ys hg fs (off+l1.length) l2 hl2 x2 y2
   rw [take_drop_eq (n:=l1.length),List.drop_drop,List.drop_drop,← hi1,← hi2]
   simp only [Op.eqFields,hname,ne_eq,not_false_eq_true,if_true,hoff,Sem.run_bind,pa,pc,hr1,Result.andThen_ok]
   cases r1
   ·exact⟨false,by simp,by simp⟩
   exact⟨r2,by simpa using hr2,by simp⟩
theorem eqItems_ok{dd:Nat}{e:TypeId}{l:List CK}(hE:EqOk P dd e l)(hsz:szOf P e=some l.length){b:Bool}(hr:rowOf P e=some b)(hb:b=false→l.length=1)(xs ys:List Value) :
 ∀ (n k:Nat),fits (List.replicate n l).flatten (xs.drop (k*l.length))=true→fits (List.replicate n l).flatten (ys.drop (k*l.length))=true →
  ∃ r:Bool,(Op.eqItems dd e l.length xs.toArray ys.toArray (List.range' k n)).run P w=.ok r w∧(r=true↔xs.drop (k*l.length)=ys.drop (k*l.length))
 | 0,k,hx,hy=>by
  have e1:=List.eq_nil_of_length_eq_zero (fits_len hx).symm
  have e2:=List.eq_nil_of_length_eq_zero (fits_len hy).symm
  exact⟨true,by simp [Op.eqItems],by simp [e1,e2]⟩
 | n+1,k,hx,hy=>by
  rw [List.replicate_succ,List.flatten_cons]at hx hy
  obtain⟨x1,x2⟩:=fits_split hx
  obtain⟨y1,y2⟩:=fits_split hy
  rw [List.drop_drop,← Nat.succ_mul]at x2 y2
  have lx:=fits_len x1
  have ly:=fits_len y1
  simp only [List.length_take,List.length_drop]at lx ly
  have pp:∀ zs:List Value,l.length=min l.length (zs.length-k*l.length)→∃ a,(part e zs.toArray (k*l.length)).run P w=.ok a w∧shaped P e a ((zs.drop (k*l.length)).take l.length):=by
   intro zs hz
   cases b with
   | false=>exact part_ok w hsz hr hb (by have:=hb rfl;omega)
   | true =>
    refine⟨.agg ((zs.drop (k*l.length)).take l.length).toArray,?_,by simp [shaped,hr]⟩
    simp [part,Sem.run_bind,run_rowOf hr,run_szOf hsz]
  obtain⟨a,pa,sa⟩:=pp xs lx
  obtain⟨c,pc,sc⟩:=pp ys ly
  obtain⟨r1,hr1,hi1⟩:=hE w a c _ _ sa sc x1 y1
  obtain⟨r2,hr2,hi2⟩:=eqItems_ok hE hsz hr hb xs ys n (k+1) x2 y2
  rw [take_drop_eq (n:=l.length),List.drop_drop,List.drop_drop,← Nat.succ_mul,← hi1,← hi2,List.range'_succ]
  simp only [Op.eqItems,Sem.run_bind,pa,pc,hr1,Result.andThen_ok]
  cases r1
  ·exact⟨false,by simp,by simp⟩
  exact⟨r2,by simpa using hr2,by simp⟩
theorem eq_kinds(d:Nat):∀ (m:Nat)(t:TypeId)(l:List CK),kindsT P m t=some l→EqOk P (d+m) t l
 | 0,_,_,h=>by simp [kindsT]at h
 | m+1,t,l,h=>by
  intro w x y xs ys hx hy fx fy
  have hh:=h
  unfold kindsT at h
  cases hu:P.underlying t with
  | none=>simp [hu]at h
  | some k =>
   rw [hu]at h
   unfold shaped at hx hy
   rw [rowOf_u hu]at hx hy
   cases k<;>dsimp only [isRowD]at h hx hy<;>(try simp only [reduceCtorEq,Option.some.injEq]at h)
   case bool =>
    subst h;subst hx;subst hy
    cases x<;>simp [fits,CK.fit]at fx
    cases y<;>simp [fits,CK.fit]at fy
    rename_i p q
    exact⟨p == q,run_equalIn_bool w (d+m) t p q hu,by simp⟩
   case int =>
    subst h;subst hx;subst hy
    cases x<;>simp [fits,CK.fit]at fx
    cases y<;>simp [fits,CK.fit]at fy
    rename_i kk k1 p k2 q
    subst fx;subst fy
    have hrun:=run_equalIn_int (P:=P) w (d+m) t kk kk p q hu
    exact⟨p == q,hrun,by simp⟩
   case string =>
    subst h;subst hx;subst hy
    cases x<;>simp [fits,CK.fit]at fx
    cases y<;>simp [fits,CK.fit]at fy
    rename_i p q
    refine⟨p.toList == q.toList,run_equalIn_string w (d+m) t p q hu,?_⟩
    simp only [beq_iff_eq,ByteArray.toList_eq]
    refine⟨fun h=>?_,fun h=>?_⟩
    ·have hd:p.data=q.data:=by rw [← Array.toArray_toList (xs:=p.data),h]
     have hpq:p=q:=by cases p;cases q;simpa using hd
     rw [hpq]
    have hpq:p=q:=by simpa using h
    rw [hpq]
   case array n e =>
    cases hk:kindsT P m e with
    | none=>simp [hk]at h
    | some l1 =>
     rw [hk]at h
     simp only [Option.ite_none_right_eq_some,Option.some.injEq]at h
     obtain⟨⟨h1,h2⟩,rfl⟩:=h
     subst hx;subst hy
     obtain⟨b,hb1,hb2⟩:=rowOf_of_kinds hk
     have hpe:∃ i,P.info? e=some i:=by
      unfold szOf at h2
      cases hq:P.info? e with
      | none=>simp [hq]at h2
      | some i=>exact⟨i,rfl⟩
     obtain⟨i,hi⟩:=hpe
     have hci:P.cellsOf e=l1.length:=by
      simp only [szOf,hi,Option.map_some,Option.some.injEq]at h2
      simp [Program.cellsOf,hi,h2]
     obtain⟨r,hr,hiff⟩:=eqItems_ok w (eq_kinds d m e l1 hk) h2 hb1 hb2 xs ys n 0 (by simpa using fx) (by simpa using fy)
     refine⟨r,?_,by simpa using hiff⟩
     rw [show d+(m+1)=(d+m)+1 from rfl,run_equalIn_array w (d+m) xs.toArray ys.toArray hu hi,hci,List.range_eq_range']
     exact hr
   case struct fs =>
    simp only [Option.ite_none_left_eq_some]at h
    obtain⟨hst,h⟩:=h
    subst hx;subst hy
    have hfs:P.fieldsOf t=fs:=by simp [Program.fieldsOf,hu]
    obtain⟨r,hr,hiff⟩:=eqFields_ok w (dd:=d+m) xs ys (fun t' l' ht'=>by
     cases hk:kindsT P m t' with
     | none=>simp [hk]at ht'
     | some l1 =>
      rw [hk]at ht'
      simp only [Option.ite_none_right_eq_some,Option.some.injEq]at ht'
      obtain⟨hs,rfl⟩:=ht'
      exact⟨eq_kinds d m t' l1 hk,hs,rowOf_of_kinds hk⟩) fs.toList 0 l h (by simpa using fx) (by simpa using fy)
    refine⟨r,?_,by simpa using hiff⟩
    rw [show d+(m+1)=(d+m)+1 from rfl,run_equalIn_struct w (d+m) t _ _ (by rw [hfs];exact hu) (by simpa using hst),hfs]
    exact hr
variable {a:Act}{W:World}{K:Act→World→Prop}{Q:Exit→Act→World→Prop}{o:Oper}
end
end Go.Proofs.YtmgcclhbbhbmcaaGreat
namespace Go.Proofs.YtmgcclhbbhbmcaaGreat
open Go Go.RowKit
section
variable {P:Program}{a:Act}{W:World}{K:Act→World→Prop}{Q:Exit→Act→World→Prop}{o:Oper}
theorem beq_bytes{p q:ByteArray}{B:Bool}(hB:B=true↔p=q):(p.toList == q.toList)=B:=by
 rw [Bool.eq_iff_iff,hB,beq_iff_eq]
 constructor
 ·intro h
  simp only [ByteArray.toList_eq]at h
  have hd:p.data=q.data:=by rw [← Array.toArray_toList (xs:=p.data),h]
  cases p;cases q;simpa using hd
 intro h;rw [h]
end
end Go.Proofs.YtmgcclhbbhbmcaaGreat
namespace Go.Proofs.YtmgcclhbbhbmcaaGreat
open Go Go.RowKit
section
variable {P:Program}{a:Act}{w0:Org}{W:World}{K:Act→World→Prop}{Q:Exit→Act→World→Prop}{o:Oper}{hs:List Ch}{os:List Ow}{ps:List (World→Prop)}
end
end Go.Proofs.YtmgcclhbbhbmcaaGreat
namespace Go.Proofs.YtmgcclhbbhbmcaaGreat
open Go Go.RowKit
section
variable {P:Program}{a:Act}{W:World}{K:Act→World→Prop}{Q:Exit→Act→World→Prop}{o:Oper}
end
end Go.Proofs.YtmgcclhbbhbmcaaGreat
namespace Go.Proofs.YtmgcclhbbhbmcaaGreat
open Go Go.RowKit
section
variable {P:Program}{a:Act}{w0:Org}{W:World}{K:Act→World→Prop}{Q:Exit→Act→World→Prop}{o:Oper}{hs hs':List Ch}{os:List Ow}{ps:List (World→Prop)}
theorem Rd.src{size m c:Nat}{A:Option Addr}{news:List Value}{t e:TypeId}(hr:Rd W size A m news)(hm:0<m)(hu:P.underlying t=some (.slice e))(h1:∀ u∈news,u.oneCell'=true):Src P size t (.slice A m c) m news W:=by
 obtain⟨ad,rfl,_,hc⟩:=hr.2 hm
 exact Src.ofSlice W hu ad m c news hr.1 hc h1
end
end Go.Proofs.YtmgcclhbbhbmcaaGreat
namespace Go.Proofs.YtmgcclhbbhbmcaaGreat
open Go Go.RowKit
section
variable {P:Program}{a:Act}{w0:Org}{W:World}{K:Act→World→Prop}{Q:Exit→Act→World→Prop}{o:Oper}{hs hs':List Ch}{os:List Ow}{ps:List (World→Prop)}
theorem zero_size{P:Program}{e:TypeId}{z:Value}{sz:Nat}(hz:zeroOf P e=some z)(hsz:szOf P e=some sz)(h:z.cells.size=sz)(n:Nat):(Builtin.zeroCells z.cells n).size=n*sz:=by simp [Builtin.zeroCells,h]
end
end Go.Proofs.YtmgcclhbbhbmcaaGreat
namespace Go.Proofs.YtmgcclhbbhbmcaaGreat
open Go Go.RowKit
structure Qe where
 key:Value
 cs:List Value
 born:Nat
def Qe.cells(e:Qe):List Value:=e.key::(e.cs++[.int .i64 (e.born:Int)])
def Qe.entry(ag:Bool)(e:Qe):MapEntry:=⟨e.key,elV ag e.cs,e.born⟩
def qCells(nx:Nat)(l:List Qe):List Value:=.int .i64 (nx:Int)::l.flatMap Qe.cells
theorem nodup_at{l:List Qe}(h:(l.map Qe.key).Nodup){i j:Nat}{a b:Qe}(ha:l[i]?=some a)(hb:l[j]?=some b)(hk:a.key=b.key):i=j:=by
 have h1:(l.map Qe.key)[i]?=some a.key:=by simp [ha]
 have h2:(l.map Qe.key)[j]?=some b.key:=by simp [hb]
 exact(List.getElem?_inj (List.getElem?_eq_some_iff.1 h1).1 h).1 (h1.trans ((congrArg some hk).trans h2.symm))
structure KeyOk(P:Program)(kt:TypeId)(G:Value→Prop):Prop where
 check:∀ (w:World) (em:Bool) {v:Value},G v→(Instr.checkKey em 10000 kt v).run P w=.ok () w
 find:∀ (w:World) {x:Value},G x→∀ es:List MapEntry,(∀ e∈es,G e.key)→((Instr.findKey kt x es).run P w=.ok none w∧∀ e∈es,e.key≠x)∨∃ j e,(Instr.findKey kt x es).run P w=.ok (some (j,e.val)) w∧es[j]?=some e∧e.key=x
 stays:∀ (w:World) {v:Value},G v→(Instr.keyThatStays v v).run P w=.ok v w
theorem KeyOk.plain{P:Program}{kt:TypeId}{d:TypeDesc}(hd:P.underlying kt=some d):KeyOk P kt (MapKept.IsKey d):=by
 refine⟨fun w em v h=>MapKept.run_checkKey hd h em 9999,fun w x hx es hes=>?_,fun w v h=>MapKept.run_keyThatStays h⟩
 rcases MapKept.findNow_spec hx es 0 hes with ⟨h1,h2⟩|⟨j,e,h1,h2,h3⟩
 ·exact .inl ⟨MapKept.run_findKey hd h1,h2⟩
 exact .inr ⟨j,e,by simpa using MapKept.run_findKey hd h1,h2,h3⟩
structure MapQ(P:Program)(kt:TypeId)(k:Nat)(c:List Value)(x:Value)(nx:Nat)(l:List Qe):Prop where
 cells:c=qCells nx l
 len:∀ e∈l,e.cs.length=k
 nod:(l.map Qe.key).Nodup
 law:∃ G,KeyOk P kt G∧(∀ e∈l,G e.key)∧G x
section
variable {P:Program}{W:World}{t kt e:TypeId}{ag:Bool}{b nx:Nat}{l:List Qe}{kv:Value}{G:Value→Prop}
theorem keys_in(hkl:∀ q∈l,G q.key):∀ x∈l.map (Qe.entry ag),G x.key:=fun x hx=>by
 obtain⟨q,hq,rfl⟩:=List.mem_map.1 hx
 exact hkl q hq
theorem find_q(K:KeyOk P kt G)(hkl:∀ q∈l,G q.key)(hkv:G kv) :
 ((Instr.findKey kt kv (l.map (Qe.entry ag))).run P W=.ok none W∧∀ q∈l,q.key≠kv)∨∃ (j:Nat) (q:Qe),(Instr.findKey kt kv (l.map (Qe.entry ag))).run P W=.ok (some (j,elV ag q.cs)) W∧l[j]?=some q∧q.key=kv:=by
 rcases K.find W hkv (l.map (Qe.entry ag)) (keys_in hkl)with ⟨h1,h2⟩|⟨j,x,h1,h2,h3⟩
 ·exact .inl ⟨h1,fun q hq=>h2 _ (List.mem_map.2 ⟨q,hq,rfl⟩)⟩
 rw [List.getElem?_map,Option.map_eq_some_iff]at h2
 obtain⟨q,hq,rfl⟩:=h2
 exact .inr ⟨j,q,h1,hq,h3⟩
theorem run_lookQ{z:Value}{ok:Bool}(hu:P.underlying t=some (.map kt e))(K:KeyOk P kt G)(hz:zeroOf P e=some z)(hkl:∀ q∈l,G q.key)(hkv:G kv)(hb:W.heap[b]?=some (.map (l.map (Qe.entry ag)).toArray nx)) :
 ((∀ q∈l,q.key≠kv)∧(Instr.lookup t (.map (some b)) kv ok).run P W=.ok (if ok then .tuple #[z,.bool false]else z) W) ∨
 ∃ (j:Nat) (q:Qe),l[j]?=some q∧q.key=kv∧(Instr.lookup t (.map (some b)) kv ok).run P W=.ok (if ok then .tuple #[elV ag q.cs,.bool true]else elV ag q.cs) W:=by
 have hc:=fun em=>K.check W em hkv
 rcases find_q (W:=W) (ag:=ag) K hkl hkv with ⟨h1,h2⟩|⟨j,q,h1,h2,h3⟩
 ·refine .inl ⟨h2,?_⟩
  cases ok<;>simp [Instr.lookup,run_underlying hu,MapKept.run_getObj_map hb,hc,h1,run_zeroOf hz,Result.andThen]
 refine .inr ⟨j,q,h2,h3,?_⟩
 cases ok<;>simp [Instr.lookup,run_underlying hu,MapKept.run_getObj_map hb,hc,h1,Result.andThen]
theorem run_storeQ{xs:List Value}(hu:P.underlying t=some (.map kt e))(K:KeyOk P kt G)(hkl:∀ q∈l,G q.key)(hkv:G kv)(hb:W.heap[b]?=some (.map (l.map (Qe.entry ag)).toArray nx)) :
 ((∀ q∈l,q.key≠kv)∧(Instr.mapUpdate t (.map (some b)) kv (elV ag xs)).run P W=.ok () (ChangeMaps.setBlock W b (.map ((l++[(⟨kv,xs,nx⟩:Qe)]).map (Qe.entry ag)).toArray (nx+1)))) ∨
 ∃ (j:Nat) (q:Qe),l[j]?=some q∧q.key=kv∧(Instr.mapUpdate t (.map (some b)) kv (elV ag xs)).run P W=.ok () (ChangeMaps.setBlock W b (.map ((l.set j (⟨kv,xs,q.born⟩:Qe)).map (Qe.entry ag)).toArray nx)):=by
 have hc:=fun em=>K.check W em hkv
 rcases find_q (W:=W) (ag:=ag) K hkl hkv with ⟨h1,h2⟩|⟨j,q,h1,h2,h3⟩
 ·refine .inl ⟨h2,?_⟩
  have e1:((l++[(⟨kv,xs,nx⟩:Qe)]).map (Qe.entry ag)).toArray=(l.map (Qe.entry ag)).toArray.push (⟨kv,elV ag xs,nx⟩:MapEntry):=by simp [Qe.entry]
  rw [e1]
  simp [Instr.mapUpdate,run_underlying hu,MapKept.run_getObj_map hb,hc,h1,MapKept.run_setObj_map _ hb,ChangeMaps.setBlock,Result.andThen]
 refine .inr ⟨j,q,h2,h3,?_⟩
 have h4:(l.map (Qe.entry ag)).toArray[j]?=some (q.entry ag):=by simp [h2]
 have h5:(l.map (Qe.entry ag))[j]?=some (q.entry ag):=by simp [h2]
 have hst:=K.stays W hkv
 have e1:=ChangeMaps.modify_eq_set (fun e:MapEntry=>(⟨kv,elV ag xs,e.born⟩:MapEntry)) _ _ _ h5
 have e2:(l.set j (⟨kv,xs,q.born⟩:Qe)).map (Qe.entry ag)=(l.map (Qe.entry ag)).set j (⟨kv,elV ag xs,q.born⟩:MapEntry):=by rw [List.map_set];rfl
 rw [e2]
 simp only [Qe.entry]at e1
 rw [← e1]
 have hk3:(q.entry ag).key=kv:=h3
 simp [Instr.mapUpdate,run_underlying hu,MapKept.run_getObj_map hb,hc,h1,h2,h5,hk3,hst,MapKept.run_setObj_map _ hb,ChangeMaps.setBlock,Result.andThen]
end
end Go.Proofs.YtmgcclhbbhbmcaaGreat
namespace Go.Proofs.YtmgcclhbbhbmcaaGreat
open Go Go.RowKit
namespace Z
inductive PE where
 | non|ret|exit (id:Nat)
 deriving DecidableEq
def PE.code:PE→Option Code
 | .non=>none
 | .ret=>some .ret
 | .exit id=>some (.exit id)
inductive Blk where
 | non|dead
 | arr (kn:Bool) (t:TypeId) (w:Nat) (l:List D)
 | tip (t:TypeId)
 | map (kn:Bool) (t:TypeId) (es:List (Int×D))
 | rc (f:FuncId) (ts:List D) (st:LoopState) (pe:PE)
 | mk
def Blk.live:Blk→Bool
 | .non|.dead=>false
 | _=>true
def look:List (Int×D)→Int→Option D
 | [],_=>none
 | (k,d)::r,n=>if k=n then some d else look r n
abbrev Heap:=List Blk
def at_(h:Heap)(n:Nat):Blk:=h.getD n .non
def put(h:Heap)(n:Nat)(b:Blk):Heap:=if n<h.length then h.set n b else h++List.replicate (n-h.length) .non++[b]
theorem put_len(h:Heap)(n:Nat)(b:Blk):(put h n b).length=max h.length (n+1):=by
 unfold put;split<;>simp<;>omega
theorem at_put(h:Heap)(n m:Nat)(b:Blk):at_ (put h n b) m=if m=n then b else at_ h m:=by
 unfold at_ put
 simp only [List.getD_eq_getElem?_getD]
 split
 ·rw [List.getElem?_set]
  by_cases hm:n=m
  ·subst hm;simp [*]
  rw [if_neg hm,if_neg (fun e=>hm e.symm)]
 by_cases hm:m=n
 ·subst hm
  rw [if_pos rfl,List.getElem?_append_right (by simp;omega)]
  simp [show m-(h.length+(m-h.length))=0 by omega]
 rw [if_neg hm]
 by_cases h1:m<h.length
 ·rw [List.append_assoc,List.getElem?_append_left h1]
 rw [List.getElem?_eq_none (show h.length≤m by omega)]
 by_cases h2:m<n
 ·rw [List.getElem?_append_left (by simp;omega),List.getElem?_append_right (by omega),List.getElem?_replicate]
  split<;>rfl
 rw [List.getElem?_eq_none (by simp;omega)]
def rgF:Code→Option (Array Tmp×Code×Code)
 | .seq x y=>match rgF x with
  | some r=>some r
  | none=>rgF y
 | .cond _ x y=>match rgF x with
  | some r=>some r
  | none=>rgF y
 | .block _ c=>rgF c
 | .scope c=>rgF c
 | .loop c=>rgF c
 | .rangeFunc _ ps sg bd=>some (ps,sg,bd)
 | _=>none
def rgOf(P:Program)(f:FuncId):Option (Array Tmp×Code×Code):=match P.funcs[f]? with
 | some fn=>match fn.body with
  | some c=>rgF c
  | none=>none
 | none=>none
section
variable (P:Program)(T:TypeId→Option Ty)
def Laid(I:Gh)(α:Al)(n:Nat)(l:List D)(c:Nat→Option Value):Prop :=
 (∀ (i:Nat) d,l[i]?=some d→d.cells.length=n)∧∀ (i j:Nat) d e,l[i]?=some d→d.cells[j]?=some e→∃ x,c (i*n+j)=some x∧Den T I α e x∧e.one=true
def RepM(I:Gh)(α:Al)(l:List Qe)(es:List (Int×D))(kk:IntKind):Prop:=∀ n,match look es n with
 | none=>∀ q∈l,q.key≠.int kk n
 | some d=>∃ q∈l,q.key=.int kk n∧Laid T I α q.cs.length [d] fun j=>q.cs[j]?
def Rep(I:Gh)(α:Al)(W:World)(r:Reg):Blk→Prop
 | .non|.dead=>True
 | .arr kn t w l=>r.v=false∧r.w=w∧l.length=w∧∃ ty c tt,T t=some ty∧r.s=ty.n∧W.heap[r.b]?=some (.cells c tt (0,0))∧(l.length*ty.n≤c.size∧(kn=true→c.size=l.length*ty.n))∧(∀ o,I r.b o=none)∧(∀ d∈l,SzOk ty d)∧(kn=false→∀ d∈l,ElOk ty d∧d.cells.all D.pure=true)∧Laid T I α ty.n l fun q=>c[q]?
 | .tip t=>r.v=true∨(r.v=false∧∃ ty c tt,T t=some ty∧r.s=ty.n∧W.heap[r.b]?=some (.cells c tt (0,0))∧r.w≤r.c∧r.c*ty.n≤c.size∧∀ o,r.w*ty.n≤o→I r.b o=none)
 | .map kn t es=>r.v=false∧∃ kt et kk ty l nx,P.underlying t=some (.map kt et)∧P.underlying kt=some (.int kk)∧T et=some ty∧W.heap[r.b]?=some (.map (l.map (Qe.entry ty.row)).toArray nx) ∧
  (∀ q∈l,(∃ n,q.key=.int kk n)∧q.cs.length=ty.n)∧(l.map Qe.key).Nodup∧(∀ p∈es,SzOk ty p.2∧(kn=false→ElOk ty p.2))∧RepM T I α l es kk
 | .rc f ts st pe=>r.v=false∧∃ L,r.lp=some L∧rgOf P f=some (L.params,L.assign,L.body)∧W.heap[r.b]?=some (.loop { L with state:=st,pending:=pe.code })∧ts.length=L.tmps.size∧(∀ (j:Nat) d x,ts[j]?=some d→L.tmps[j]?=some x→Den T I α d x)
 | .mk=>r.v=false∧W.heap[r.b]?=some (.deferred (some []))
end
structure Ms where
 l:List Nat
 g:Gh
instance:Membership Nat Ms:=⟨fun m b=>b∈m.l⟩
structure Old(w0:World)(ms:Ms)(W:World):Prop where
 os:W.os=w0.os
 tape:W.tape=w0.tape
 output:W.output=w0.output
 size:w0.heap.size≤W.heap.size
 block:∀ b,b<w0.heap.size→b∉ms→W.heap[b]?=w0.heap[b]?
structure Stp(X:List Nat)(W W':World):Prop where
 os:W'.os=W.os
 tape:W'.tape=W.tape
 output:W'.output=W.output
 size:W.heap.size≤W'.heap.size
 block:∀ b,b<W.heap.size→b∉X→W'.heap[b]?=W.heap[b]?
theorem Stp.below{W W':World}(h:Below W.heap.size W W'):Stp [] W W':=⟨h.os,h.tape,h.output,h.size,fun b hb _=>h.block b hb⟩
section
variable {P:Program}{T:TypeId→Option Ty}{w0:World}{ms:Ms}{h h':Heap}{α α':Al}{I I':Gh}{W W':World}
structure HInv(P:Program)(T:TypeId→Option Ty)(w0:World)(ms:Ms)(h:Heap)(α:Al)(I:Gh)(W:World):Prop where
 old:Old w0 ms W
 dom:∀ n r,α n=some r→at_ h n≠.non
 liv:∀ n,(at_ h n).live=true→∃ r,α n=some r∧(r.v=false→w0.heap.size≤r.b∨(r.b∈ms∧∀ t,at_ h n≠.tip t))∧Rep P T I α W r (at_ h n)
 sep:∀ n m r r',n≠m→(at_ h n).live=true→(at_ h m).live=true→α n=some r→α m=some r'→r.v=false→r'.v=false→r.b≠r'.b
 gh:∀ b o x,I b o=some x→W.cell? ⟨b,o,none⟩=some x
 g0:∀ b o,b<w0.heap.size→b∉ms→ms.g b o=none→I b o=none
theorem Laid.mono{n:Nat}{l:List D}{c:Nat→Option Value}(hl:Laid T I α n l c)(hI:LeI I I')(ha:LeA α α'):Laid T I' α' n l c :=
 ⟨hl.1,fun i j d e h1 h2=>let ⟨x,h3,h4,h5⟩:=hl.2 i j d e h1 h2;⟨x,h3,h4.mono hI ha,h5⟩⟩
theorem Rep.keep{r:Reg}{B:Blk}(hr:Rep P T I α W r B)(hI:LeI I I')(ha:LeA α α')(hb:r.v=false→W'.heap[r.b]?=W.heap[r.b]?)(hn:r.v=false→∀ o,I r.b o=none→I' r.b o=none):Rep P T I' α' W' r B:=by
 cases B with
 | non=>trivial
 | dead=>trivial
 | arr kn t w l =>
  obtain⟨hv,hw,hlw,ty,c,tt,h1,h2,h3,h4,h5,h6,h7,h8⟩:=hr
  exact⟨hv,hw,hlw,ty,c,tt,h1,h2,(hb hv).trans h3,h4,fun o=>hn hv o (h5 o),h6,h7,h8.mono hI ha⟩
 | tip t =>
  rcases hr with hv|⟨hv,ty,c,tt,h1,h2,h3,h4,h5,h6⟩
  ·exact .inl hv
  exact .inr ⟨hv,ty,c,tt,h1,h2,(hb hv).trans h3,h4,h5,fun o ho=>hn hv o (h6 o ho)⟩
 | map kn t es =>
  obtain⟨hv,kt,et,kk,ty,l,nx,h1,h2,h3,h4,h5,h6,h7,h8⟩:=hr
  refine⟨hv,kt,et,kk,ty,l,nx,h1,h2,h3,(hb hv).trans h4,h5,h6,h7,fun n=>?_⟩
  have:=h8 n
  split at this
  ·exact this
  obtain⟨q,h9,h10,h11⟩:=this
  exact⟨q,h9,h10,h11.mono hI ha⟩
 | rc f ts st pe =>
  obtain⟨hv,L,hL,h0,h1,h2,h3⟩:=hr
  exact⟨hv,L,hL,h0,(hb hv).trans h1,h2,fun j d x e1 e2=>(h3 j d x e1 e2).mono hI ha⟩
 | mk=>exact⟨hr.1,(hb hr.1).trans hr.2⟩
theorem Rep.lt{r:Reg}{B:Blk}(hr:Rep P T I α W r B)(hl:B.live=true)(hv:r.v=false):r.b<W.heap.size:=by
 have key:∀ {o:Obj},W.heap[r.b]?=some o→r.b<W.heap.size:=fun e=>(Array.getElem?_eq_some_iff.1 e).1
 cases B with
 | non=>cases hl
 | dead=>cases hl
 | arr kn t w l=>obtain⟨_,_,_,ty,c,tt,h1,h2,h3,h4⟩:=hr;exact key h3
 | tip t =>
  rcases hr with h|⟨_,ty,c,tt,h1,h2,h3,h4⟩
  ·rw [hv]at h;cases h
  exact key h3
 | map kn t es=>obtain⟨_,kt,et,kk,ty,l,nx,h1,h2,h3,h4,h5⟩:=hr;exact key h4
 | rc f ts st pe=>obtain⟨_,L,hL,h0,h1,h2⟩:=hr;exact key h1
 | mk=>exact key hr.2
theorem HInv.step(hi:HInv P T w0 ms h α I W){X:List Nat}(hs:Stp X W W')(hX:∀ b∈X,w0.heap.size≤b∨b∈ms)(hI:LeI I I')(hg0:∀ b o,b<w0.heap.size→b∉ms→I b o=none→I' b o=none)(ha:LeA α α')
 (hdom:∀ n r,α' n=some r→at_ h' n≠.non) (hgh:∀ b o x,I' b o=some x→(I b o=some x∧b∉X)∨W'.cell? ⟨b,o,none⟩=some x)
 (hold:∀ n,(at_ h' n).live=true→(at_ h' n=at_ h n∧∀ r,α n=some r→r.v=false→r.b∉X∧∀ o,I r.b o=none→I' r.b o=none) ∨
  ∃ r,α' n=some r∧(r.v=false→w0.heap.size≤r.b∨(r.b∈ms∧∀ t,at_ h' n≠.tip t))∧Rep P T I' α' W' r (at_ h' n)∧(r.v=false→∀ m r',m≠n→(at_ h' m).live=true→α' m=some r'→r'.v=false→r'.b≠r.b)):HInv P T w0 ms h' α' I' W':=by
 have hkeep:∀ n,at_ h' n=at_ h n→(at_ h' n).live=true→(∀ r,α n=some r→r.v=false→r.b∉X∧∀ o,I r.b o=none→I' r.b o=none)→∃ r,α n=some r∧α' n=some r∧(r.v=false→w0.heap.size≤r.b∨(r.b∈ms∧∀ t,at_ h' n≠.tip t))∧Rep P T I' α' W' r (at_ h' n):=by
  intro n e hl hr
  rw [e]at hl ⊢
  obtain⟨r,h1,h2,h3⟩:=hi.liv n hl
  exact⟨r,h1,ha _ _ h1,h2,h3.keep hI ha (fun hv=>hs.block _ (h3.lt hl hv) (hr r h1 hv).1) fun hv=>(hr r h1 hv).2⟩
 refine⟨⟨hs.os.trans hi.old.os,hs.tape.trans hi.old.tape,hs.output.trans hi.old.output,Nat.le_trans hi.old.size hs.size,fun b hb hm=>?_⟩,hdom,?_,?_,?_,fun b q hb hm hq=>hg0 b q hb hm (hi.g0 b q hb hm hq)⟩
 ·rw [hs.block b (Nat.lt_of_lt_of_le hb hi.old.size) (fun hx=>(hX b hx).elim (fun h1=>absurd hb (Nat.not_lt.2 h1)) hm)]
  exact hi.old.block b hb hm
 ·intro n hl
  rcases hold n hl with ⟨e,hr⟩|⟨r,h1,h2,h3,_⟩
  ·obtain⟨r,_,h1,h2,h3⟩:=hkeep n e hl hr;exact⟨r,h1,h2,h3⟩
  exact⟨r,h1,h2,h3⟩
 ·intro n m r r' hnm hn hm e1 e2 hv hv'
  rcases hold n hn with ⟨en,hrn⟩|⟨rn,h1,_,_,h4⟩
  ·rcases hold m hm with ⟨em,hrm⟩|⟨rm,h1,_,_,h4⟩
   ·obtain⟨q,a1,a2,_⟩:=hkeep n en hn hrn
    obtain⟨q',b1,b2,_⟩:=hkeep m em hm hrm
    obtain rfl:q=r:=by rw [a2]at e1;exact Option.some.inj e1
    obtain rfl:q'=r':=by rw [b2]at e2;exact Option.some.inj e2
    rw [en]at hn;rw [em]at hm
    exact hi.sep n m _ _ hnm hn hm a1 b1 hv hv'
   obtain rfl:rm=r':=by rw [h1]at e2;exact Option.some.inj e2
   exact h4 hv' n r hnm hn e1 hv
  obtain rfl:rn=r:=by rw [h1]at e1;exact Option.some.inj e1
  exact fun e=>h4 hv m r' (fun e'=>hnm e'.symm) hm e2 hv' e.symm
 intro b o x hx
 rcases hgh b o x hx with ⟨h1,h2⟩|h1
 ·have h3:=hi.gh b o x h1
  have hb:b<W.heap.size:=block_lt_of_cell h3
  rw [← h3]
  exact World.cell?_of_block (w:=W) (w':=W') (hs.block b hb h2)
 exact h1
theorem HInv.go(hi:HInv P T w0 ms h α I W)(hb:Below W.heap.size W W'):HInv P T w0 ms h α I W' :=
 hi.step (Stp.below hb) (fun _ h=>nomatch h) (.refl _) (fun _ _ _ _ h=>h) (.refl _) hi.dom (fun b o x hx=>.inl ⟨hx,fun h=>nomatch h⟩) fun n hl=>.inl ⟨rfl,fun r hr _=>⟨(fun h=>nomatch h),fun _ h=>h⟩⟩
theorem HInv.drew(hi:HInv P T w0 ms h α I W):HInv P T w0 ms h α I W.drew:=hi.go (Below.refl _ _).drew
def Al.set(α:Al)(n:Nat)(r:Reg):Al:=fun m=>if m=n then some r else α m
theorem Al.set_le{α:Al}{n:Nat}{r:Reg}(h:α n=none):LeA α (α.set n r):=fun m r' hm=>by
 unfold Al.set
 split
 ·rename_i e;rw [e,h]at hm;cases hm
 exact hm
theorem Al.set_eq{α:Al}{n:Nat}{r:Reg}:(α.set n r) n=some r:=by simp [Al.set]
theorem HInv.fresh(hi:HInv P T w0 ms h α I W){n:Nat}(hn:at_ h n=.non):α n=none:=by
 cases e:α n with
 | none=>rfl
 | some r=>exact absurd hn (hi.dom n r e)
theorem HInv.reput(hi:HInv P T w0 ms h α I W){n:Nat}{B:Blk}{r:Reg}(hr:α n=some r)(hv:r.v=false)(hl:(at_ h n).live=true)(hs:Stp [r.b] W W')(hI0:∀ o,I r.b o=none)(hB:B≠.non)(hBt:∀ t,B≠.tip t)(hrep:Rep P T I α W' r B):HInv P T w0 ms (put h n B) α I W':=by
 have hown:w0.heap.size≤r.b∨r.b∈ms∧∀ t,at_ h n≠.tip t:=by
  obtain⟨r',h1,h2,_⟩:=hi.liv n hl
  rw [hr]at h1;obtain rfl:=Option.some.inj h1;exact h2 hv
 refine hi.step hs (fun b hb=>by obtain rfl:=List.mem_singleton.1 hb;exact hown.imp id And.left) (.refl _) (fun _ _ _ _ h=>h) (.refl _) (fun m r' hm=>?_) (fun b o' x hx'=>.inl ⟨hx',fun hb=>?_⟩) fun m hm=>?_
 ·rw [at_put];split
  ·exact hB
  exact hi.dom m r' hm
 ·obtain rfl:=List.mem_singleton.1 hb
  rw [hI0]at hx';cases hx'
 by_cases hmn:m=n
 ·subst hmn
  refine .inr ⟨r,hr,fun _=>hown.imp id fun h=>⟨h.1,by rw [at_put,if_pos rfl];exact hBt⟩,by rw [at_put,if_pos rfl];exact hrep,fun _ m' r' hm' hl' hr' hv'=>?_⟩
  rw [at_put,if_neg hm']at hl'
  exact fun e'=>hi.sep m' m r' r hm' hl' hl hr' hr hv' hv e'
 rw [at_put,if_neg hmn]at hm ⊢
 exact .inl ⟨rfl,fun r' hr' hv'=>⟨fun hb=>hi.sep m n r' r hmn hm hl hr' hr hv' hv (List.mem_singleton.1 hb),fun _ h=>h⟩⟩
theorem HInv.new(hi:HInv P T w0 ms h α I W){n:Nat}{B:Blk}{r:Reg}(hn:at_ h n=.non)(hb:r.v=false→W.heap.size≤r.b)(hs:Stp [] W W')(hI:LeI I I')(hgh:∀ b o x,I' b o=some x→I b o=some x∨W'.cell? ⟨b,o,none⟩=some x)
 (hold:∀ b o,b<W.heap.size→I b o=none→I' b o=none) (hB:B≠.non) (hrep:Rep P T I' (α.set n r) W' r B):HInv P T w0 ms (put h n B) (α.set n r) I' W':=by
 have hα:=hi.fresh hn
 refine hi.step hs (fun b hb=>nomatch hb) hI (fun b q hb _ hq=>hold b q (Nat.lt_of_lt_of_le hb hi.old.size) hq) (Al.set_le hα) (fun m r' hm=>?_) (fun b o' x hx'=>(hgh b o' x hx').imp (fun h1=>⟨h1,fun h=>nomatch h⟩) id) fun m hm=>?_
 ·rw [at_put];split
  ·exact hB
  rename_i hmn;simp only [Al.set,if_neg hmn]at hm;exact hi.dom m r' hm
 by_cases hmn:m=n
 ·subst hmn
  refine .inr ⟨r,Al.set_eq,fun hv=>.inl (Nat.le_trans hi.old.size (hb hv)),by rw [at_put,if_pos rfl];exact hrep,fun hv m' r' hm' hl' hr' hv'=>?_⟩
  rw [at_put,if_neg hm']at hl'
  simp only [Al.set,if_neg hm']at hr'
  obtain⟨r2,h1,_,h2⟩:=hi.liv m' hl'
  rw [hr']at h1;obtain rfl:=Option.some.inj h1
  have:=h2.lt hl' hv'
  have:=hb hv
  omega
 rw [at_put,if_neg hmn]at hm ⊢
 refine .inl ⟨rfl,fun r' hr' hv'=>⟨(fun h=>nomatch h),fun o' ho'=>hold _ _ ?_ ho'⟩⟩
 obtain⟨r2,h1,_,h2⟩:=hi.liv m hm
 rw [hr']at h1;obtain rfl:=Option.some.inj h1
 exact h2.lt hm hv'
theorem HInv.kill(hi:HInv P T w0 ms h α I W)(n:Nat):HInv P T w0 ms (put h n .dead) α I W:=by
 refine hi.step (X:=[]) ⟨rfl,rfl,rfl,Nat.le_refl _,fun _ _ _=>rfl⟩ (fun b hb=>nomatch hb) (.refl _) (fun _ _ _ _ h=>h) (.refl _) (fun m r' hm=>?_) (fun b o' x hx'=>.inl ⟨hx',fun h=>nomatch h⟩) fun m hm=>?_
 ·rw [at_put];split
  ·intro h;cases h
  exact hi.dom m r' hm
 rw [at_put]at hm ⊢
 split at hm
 ·cases hm
 rename_i hmn
 rw [if_neg hmn]
 exact .inl ⟨rfl,fun r' hr' _=>⟨(fun h=>nomatch h),fun _ h=>h⟩⟩
theorem HInv.know(hi:HInv P T w0 ms h α I W)(hI:LeI I I')(hgh:∀ b o x,I' b o=some x→W.cell? ⟨b,o,none⟩=some x)(hg0:∀ b o,b<w0.heap.size→b∉ms→I b o=none→I' b o=none)(hold:∀ n r,(at_ h n).live=true→α n=some r→r.v=false→∀ o,I r.b o=none→I' r.b o=none):HInv P T w0 ms h α I' W:=by
 refine hi.step (X:=[]) ⟨rfl,rfl,rfl,Nat.le_refl _,fun _ _ _=>rfl⟩ (fun b hb=>nomatch hb) hI hg0 (.refl _) hi.dom (fun b o' x hx'=>.inr (hgh b o' x hx')) fun m hm=>.inl ⟨rfl,fun r' hr' hv'=>⟨(fun h=>nomatch h),hold m r' hm hr' hv'⟩⟩
end
end Z
end Go.Proofs.YtmgcclhbbhbmcaaGreat
namespace Go.Proofs.YtmgcclhbbhbmcaaGreat
open Go Go.RowKit
namespace Z
abbrev LId:=Nat×Nat
inductive Df where
 | mark (n:Nat)
 | fn (d:D)
structure LSt where
 ds:List D
 bs:List Blk
 df:List Df
inductive Out where
 | ret (d:D) (outs:List D)
 | pan (d:D)
inductive M (β:Type) where
 | pure (b:β)
 | br (c:Bool) (x y:M β)
 | get (l:List D) (i:Int) (k:D→M β)
 | call (f:FuncId) (args:List D) (ins:List (TypeId×D)) (k:D→List D→M β)
 | callp (f:FuncId) (args:List D) (ins:List (TypeId×D)) (k:D→List D→M β) (kp:D→M β)
 | loop (id:LId) (ds:LSt) (k0 k1 k2:LSt→M β)
 | need (c:Bool) (m:M β)
 | bad (why:Nat)
def M.bind{β γ:Type}:M β→(β→M γ)→M γ
 | .pure b,f=>f b
 | .br c x y,f=>.br c (x.bind f) (y.bind f)
 | .get l i k,f=>.get l i fun d=>(k d).bind f
 | .call g a ins k,f=>.call g a ins fun d l=>(k d l).bind f
 | .callp g a ins k kp,f=>.callp g a ins (fun d l=>(k d l).bind f) fun d=>(kp d).bind f
 | .loop id ds k0 k1 k2,f=>.loop id ds (fun l=>(k0 l).bind f) (fun l=>(k1 l).bind f) fun l=>(k2 l).bind f
 | .need c m,f=>.need c (m.bind f)
 | .bad n,_=>.bad n
abbrev Cn:=FuncId→List D→List (TypeId×D)→Out→Prop
abbrev Rd1:=Option Nat×LSt
mutual
inductive Ev (E:LId→LSt→M Rd1) (Γ:Cn):(β:Type)→M β→β→Prop where
 | pure {β:Type} {b:β}:Ev E Γ β (.pure b) b
 | brt {β:Type} {c:Bool} {x y:M β} {r:β} (h:c=true) (hx:Ev E Γ β x r):Ev E Γ β (.br c x y) r
 | brf {β:Type} {c:Bool} {x y:M β} {r:β} (h:c=false) (hy:Ev E Γ β y r):Ev E Γ β (.br c x y) r
 | get {β:Type} {l:List D} {i:Int} {k:D→M β} {r:β} {d:D} (h0:0≤i) (h:l[i.toNat]?=some d) (hk:Ev E Γ β (k d) r):Ev E Γ β (.get l i k) r
 | call {β:Type} {f:FuncId} {args:List D} {ins:List (TypeId×D)} {k:D→List D→M β} {r:β} {d:D} {o:List D} (h:Γ f args ins (.ret d o)) (hk:Ev E Γ β (k d o) r):Ev E Γ β (.call f args ins k) r
 | callr {β:Type} {f:FuncId} {args:List D} {ins:List (TypeId×D)} {k:D→List D→M β} {kp:D→M β} {r:β} {d:D} {o:List D} (h:Γ f args ins (.ret d o)) (hk:Ev E Γ β (k d o) r):Ev E Γ β (.callp f args ins k kp) r
 | callp {β:Type} {f:FuncId} {args:List D} {ins:List (TypeId×D)} {k:D→List D→M β} {kp:D→M β} {r:β} {d:D} (h:Γ f args ins (.pan d)) (hk:Ev E Γ β (kp d) r):Ev E Γ β (.callp f args ins k kp) r
 | loop0 {β:Type} {id:LId} {ds ds':LSt} {k0 k1 k2:LSt→M β} {r:β} (h:Lp E Γ id ds 0 ds') (hk:Ev E Γ β (k0 ds') r):Ev E Γ β (.loop id ds k0 k1 k2) r
 | loop1 {β:Type} {id:LId} {ds ds':LSt} {k0 k1 k2:LSt→M β} {r:β} (h:Lp E Γ id ds 1 ds') (hk:Ev E Γ β (k1 ds') r):Ev E Γ β (.loop id ds k0 k1 k2) r
 | loop2 {β:Type} {id:LId} {ds ds':LSt} {k0 k1 k2:LSt→M β} {r:β} (h:Lp E Γ id ds 2 ds') (hk:Ev E Γ β (k2 ds') r):Ev E Γ β (.loop id ds k0 k1 k2) r
 | need {β:Type} {c:Bool} {m:M β} {r:β} (h:c=true) (hm:Ev E Γ β m r):Ev E Γ β (.need c m) r
inductive Lp (E:LId→LSt→M Rd1) (Γ:Cn):LId→LSt→Nat→LSt→Prop where
 | done {id:LId} {ds ds':LSt} {j:Nat} (h:Ev E Γ Rd1 (E id ds) (some j,ds')):Lp E Γ id ds j ds'
 | next {id:LId} {ds ds1 ds':LSt} {j:Nat} (h:Ev E Γ Rd1 (E id ds) (none,ds1)) (h':Lp E Γ id ds1 j ds'):Lp E Γ id ds j ds'
end
section
variable {E:LId→LSt→M Rd1}{Γ:Cn}{β γ:Type}
def To(E:LId→LSt→M Rd1)(Γ:Cn)(m:M β)(Q:β→Prop):Prop:=∃ r,Ev E Γ β m r∧Q r
theorem ev_bind{f:β→M γ}:∀ {m:M β}{r:γ},Ev E Γ γ (m.bind f) r→∃ b,Ev E Γ β m b∧Ev E Γ γ (f b) r
 | .pure b,r,h=>⟨b,.pure,h⟩
 | .br c x y,r,h=>by
  cases h with
  | brt h hx=>obtain⟨b,h1,h2⟩:=ev_bind hx;exact⟨b,.brt h h1,h2⟩
  | brf h hx=>obtain⟨b,h1,h2⟩:=ev_bind hx;exact⟨b,.brf h h1,h2⟩
 | .get l i k,r,h=>by
  cases h with
  | get h0 h hk=>obtain⟨b,h1,h2⟩:=ev_bind hk;exact⟨b,.get h0 h h1,h2⟩
 | .call g a ins k,r,h=>by
  cases h with
  | call h hk=>obtain⟨b,h1,h2⟩:=ev_bind hk;exact⟨b,.call h h1,h2⟩
 | .callp g a ins k kp,r,h=>by
  cases h with
  | callr h hk=>obtain⟨b,h1,h2⟩:=ev_bind hk;exact⟨b,.callr h h1,h2⟩
  | callp h hk=>obtain⟨b,h1,h2⟩:=ev_bind hk;exact⟨b,.callp h h1,h2⟩
 | .loop id ds k0 k1 k2,r,h=>by
  cases h with
  | loop0 h hk=>obtain⟨b,h1,h2⟩:=ev_bind hk;exact⟨b,.loop0 h h1,h2⟩
  | loop1 h hk=>obtain⟨b,h1,h2⟩:=ev_bind hk;exact⟨b,.loop1 h h1,h2⟩
  | loop2 h hk=>obtain⟨b,h1,h2⟩:=ev_bind hk;exact⟨b,.loop2 h h1,h2⟩
 | .need c m,r,h=>by
  cases h with
  | need h hm=>obtain⟨b,h1,h2⟩:=ev_bind hm;exact⟨b,.need h h1,h2⟩
 | .bad n,r,h=>by cases h
end
end Z
end Go.Proofs.YtmgcclhbbhbmcaaGreat
namespace Go.Proofs.YtmgcclhbbhbmcaaGreat
open Go Go.RowKit
namespace Z
def kindOf(P:Program)(t:TypeId):CK:=match P.underlying t with
 | some (.int k)=>.i k
 | some .bool=>.b
 | some .string=>.s
 | some (.slice e)=>.sl e
 | _=>.o
def ksOf(P:Program):Nat→TypeId→Option (List CK)
 | 0,_=>none
 | n+1,t=>match P.underlying t with
  | some (.struct fs)=>(fs.toList.mapM fun f=>ksOf P n f.type).map List.flatten
  | some (.array len e)=>(ksOf P n e).map fun l=>(List.replicate len l).flatten
  | _=>some [kindOf P t]
def tyOf(P:Program)(t:TypeId):Option Ty:=match ksOf P 12 t,szOf P t,rowOf P t with
 | some ks,some n,some r=>if ks.length=n∧(r=true∨n=1)then some ⟨r,ks⟩else none
 | _,_,_=>none
def slElem(P:Program)(t:TypeId):Option TypeId:=match P.underlying t with
 | some (.slice e)=>some e
 | _=>none
def zeroC:CK→Value→Option D
 | .sl e,.slice none 0 0=>some (.sl true e [] .nil)
 | .sl _,_=>none
 | _,v=>if v.oneCell' then some (.k v)else none
def zeroL:List CK→List Value→Option (List D)
 | [],[]=>some []
 | c::cs,v::vs=>match zeroC c v,zeroL cs vs with
  | some d,some l=>some (d::l)
  | _,_=>none
 | _,_=>none
def zeroD(P:Program)(t:TypeId):Option D:=match tyOf P t,zeroOf P t with
 | some ty,some z=>match ty.row,z with
  | true,.agg c=>(zeroL ty.ks c.toList).map .agg
  | false,v=>zeroC (ty.ks.headD .o) v
  | _,_=>none
 | _,_=>none
def D.strip1:D→D
 | .sl kn t l (.tip _)=>.sl kn t l .non
 | d=>d
def D.strip:D→D
 | .agg l=>.agg (l.map D.strip1)
 | d=>d.strip1
def ckB:CK→D→Bool
 | .i k,.k (.int k' _)|.i k,.v (.int k' _)=>k == k'
 | .b,.k (.bool _)|.b,.v (.bool _)=>true
 | .s,.k (.string _)|.s,.v (.string _)=>true
 | .sl t,.sl _ t' _ _=>t == t'
 | .o,d=>d.one
 | _,_=>false
def ckL:List CK→List D→Bool
 | [],[]=>true
 | c::cs,d::ds=>ckB c d && d.one && d.pure && ckL cs ds
 | _,_=>false
def szB(ty:Ty)(d:D):Bool:=match ty.row,d with
 | true,.agg l=>l.length == ty.n && l.all D.one
 | true,_=>false
 | false,d=>ty.n == 1 && d.one
def elB(ty:Ty)(d:D):Bool:=szB ty d && ckL ty.ks d.cells
def mkv:Bool→Value→D
 | true,x=>.k x
 | false,x=>.v x
def sca:D→Option (Bool×Value)
 | .k x=>some (true,x)
 | .v x=>some (false,x)
 | _=>none
def asI:D→Option (Bool×Int)
 | .k (.int _ n)=>some (true,n)
 | .v (.int _ n)=>some (false,n)
 | _=>none
def asL(t:TypeId):D→Option (Bool×List D×Tok)
 | .sl kn t' l tk=>if t'=t then some (kn,l,tk)else none
 | .k (.slice none 0 0)=>some (true,[],.nil)
 | .k (.slice (some _) 0 _)=>some (true,[],.non)
 | _=>none
def binR(op:BinOp):Value→Value→Option Value
 | .int k i,.int k' j=>match op with
  | .shl=>some (.int k (k.wrap (i*2 ^ (min j.toNat k.bits))))
  | .shr=>some (.int k (i.fdiv (2 ^ (min j.toNat k.bits))))
  | op=>if k=k' then(match op with
   | .quo=>some (.int k (k.wrap (i.tdiv j)))
   | .rem=>some (.int k (i.tmod j))
   | .and=>some (.int k (k.wrap (BitVec.ofInt k.bits i&&&BitVec.ofInt k.bits j).toNat))
   | .or=>some (.int k (k.wrap (BitVec.ofInt k.bits i|||BitVec.ofInt k.bits j).toNat))
   | .xor=>some (.int k (k.wrap (BitVec.ofInt k.bits i^^^BitVec.ofInt k.bits j).toNat))
   | op=>binI op k i j)else none
 | .string p,.string q=>match op with
  | .eql=>some (.bool (decide (p=q)))
  | .neq=>some (.bool (!decide (p=q)))
  | _=>none
 | .bool p,.bool q=>match op with
  | .eql=>some (.bool (p == q))
  | .neq=>some (.bool !(p == q))
  | _=>none
 | _,_=>none
def binC(op:BinOp):Value→Option Bool
 | .int _ j=>match op with
  | .quo|.rem=>some (decide (j≠0))
  | .shl|.shr=>some (decide (0≤j))
  | _=>none
 | _=>none
def eqC(x y:D):Option Bool:=match sca x,sca y with
 | some (_,.int k i),some (_,.int k' j)=>if k=k' then some (decide (i=j))else none
 | some (_,.string p),some (_,.string q)=>some (decide (p=q))
 | some (_,.bool p),some (_,.bool q)=>some (p == q)
 | _,_=>none
def eqL:List D→List D→Option Bool
 | [],[]=>some true
 | x::xs,y::ys=>match eqC x y,eqL xs ys with
  | some a,some b=>some (a && b)
  | _,_=>none
 | _,_=>none
inductive Re where
 | ok (d:D) (us:List (Nat×Blk))
 | pan (d:D)
def ok1(d:D):M Re:=.pure (.ok d [])
def needB(c:Option Bool)(kn:Bool)(m:M Re):M Re:=match c,kn with
 | none,_=>m
 | some b,true=>match b with
  | true=>m
  | false=>.bad 1
 | some b,false=>.need b m
def part(P:Program)(t:TypeId)(cs:List D)(q:Nat):Option D:=match szOf P t,rowOf P t with
 | some n,some true=>if q+n≤cs.length then some (.agg ((cs.drop q).take n))else none
 | some _,some false=>match cs[q]? with
  | some d=>if d.one then some d else none
  | none=>none
 | _,_=>none
def ok? (d:Option D)(why:Nat):M Re:=match d with
 | some d=>ok1 d
 | none=>.bad why
def elem(kn lit:Bool)(ty:Ty)(l:List D)(i:Nat)(k:D→M Re):M Re:=match kn,lit with
 | true,true=>match l[i]? with
  | some d=>k d
  | none=>.bad 2
 | true,false=>if l.all (elB ty)then .get l i fun d=>k (eta ty d)else .bad 13
 | false,_=>.get l i fun d=>k (eta ty d)
def nameOf:D→List Nat
 | .p n _ _|.px n _ _|.ar _ n _ _|.mp n=>[n]
 | .sl _ _ _ (.tip n)=>[n]
 | _=>[]
def nameT:D→List Nat
 | .sl _ _ _ (.tip n)=>[n]
 | _=>[]
def nameA:D→List Nat
 | .ar _ n _ _=>[n]
 | _=>[]
def foot0:Op→List D→List Nat
 | .load _ _,[x]=>nameOf x
 | .store _ _ _,[x,_]=>nameOf x
 | .insert ..,m::_|.mapUpdate ..,m::_|.lookup ..,m::_=>nameOf m
 | .slice ..,.p n _ _::_|.slice ..,.ar _ n _ _::_=>[n]
 | .indexAddr ..,.p n _ _::_|.indexAddr ..,.ar _ n _ _::_=>[n]
 | .call c,vs=>match c.callee,vs with
  | .builtin .append,[x,y]=>nameT x++nameA y
  | .builtin .copy,[.ar _ n _ _,y]=>n::nameA y
  | .builtin .len,[.mp n]=>[n]
  | _,_=>[]
 | _,_=>[]
def ldP(P:Program)(t:TypeId)(B:Blk)(lit:Bool)(i q:Nat):M Re:=match B with
 | .arr kn e w l=>match tyOf P e with
  | some ty =>
   if t≠e∧arrOf P t=some (w,e)∧kn=true∧lit=true∧i=0∧q=0 then(if l.all (szB ty)=true∧szOf P t=some (w*ty.n)then ok1 (.agg (l.flatMap D.cells))else .bad 3)
   else elem kn lit ty l i fun d=>if szB ty d then ok? (part P t d.cells q) 4 else .bad 44
  | none=>.bad 5
 | _=>.bad 6
def into(n:Nat)(d:D)(q:Nat)(y:D):D:=match d with
 | .agg cs=>.agg (cs.take q++y.cells++cs.drop (q+n))
 | _=>y
def wholeB(P:Program)(t e:TypeId)(w:Nat)(ty:Ty)(kn lit:Bool)(i q:Nat)(y:D):Bool:=kn && lit && i == 0 && q == 0 && decide (t≠e) && decide (arrOf P t=some (w,e)) && decide (szOf P t=some w) && !ty.row && ty.n == 1 && y.cells.length == w && y.cells.all D.one
def stP(P:Program)(t:TypeId)(n:Nat)(B:Blk)(lit:Bool)(i q:Nat)(y:D):M Re:=match B with
 | .arr kn e w l=>match tyOf P e,szOf P t with
  | some ty,some k=>if wholeB P t e w ty kn lit i q y=true then .pure (.ok .any [(n,.arr true e w y.cells)])else if q+k≤ty.n∧y.cells.length=k∧y.cells.all D.one=true then(match kn,lit with
   | true,true=>(match l[i]? with
    | some d=>if szB ty d∧szB ty (into k d q y)then .pure (.ok .any [(n,.arr true e w (l.set i (into k d q y)))])else .bad 7
    | none=>.bad 8)
   | true,false=>if l.all (elB ty)then elem true false ty l i fun d=>if elB ty (into k d q y.strip)∧szB ty d then .pure (.ok .any [(n,.arr false e w (l.set i (into k d q y.strip)))])else .bad 9 else .bad 14
   | false,_=>elem false lit ty l i fun d=>if elB ty (into k d q y.strip)∧szB ty d then .pure (.ok .any [(n,.arr false e w (l.set i (into k d q y.strip)))])else .bad 9)else .bad 10
  | _,_=>.bad 11
 | _=>.bad 12
end Z
end Go.Proofs.YtmgcclhbbhbmcaaGreat
namespace Go.Proofs.YtmgcclhbbhbmcaaGreat
open Go Go.RowKit
namespace Z
def p1(vs:List D)(k:D→M Re):M Re:=match vs with
 | [x]=>k x
 | _=>.bad 20
def p2(vs:List D)(k:D→D→M Re):M Re:=match vs with
 | [x,y]=>k x y
 | _=>.bad 20
def p3(vs:List D)(k:D→D→D→M Re):M Re:=match vs with
 | [x,y,z]=>k x y z
 | _=>.bad 20
def pickP(c a b:D):M Re:=match c with
 | .k (.bool c)=>ok1 (bif c then a else b)
 | .v (.bool c)=>match sca a,sca b with
  | some (_,.bool p),some (_,.bool q)=>ok1 (.v (.bool (bif c then p else q)))
  | _,_=>.bad 21
 | _=>.bad 22
def fitB(P:Program)(t:TypeId)(d:D):Bool:=match tyOf P t with
 | some ty=>szB ty d
 | none=>false
def zEq:D→D→Bool
 | .k (.int k i),.k (.int k' j)=>decide (k=k') && decide (i=j)
 | _,_=>false
theorem zEq_eq{d e:D}(h:zEq d e=true):d=e:=by
 unfold zEq at h
 split at h
 ·simp only [Bool.and_eq_true,decide_eq_true_eq]at h
  rw [h.1,h.2]
 cases h
noncomputable def zr(n:Nat)(z:D):List D:=Classical.choose (p:=fun l=>l=List.replicate n z) ⟨_,rfl⟩
theorem zr_eq(n:Nat)(z:D):zr n z=List.replicate n z:=Classical.choose_spec (p:=fun l=>l=List.replicate n z) ⟨_,rfl⟩
def bigZ(n:Nat)(ty:Ty)(cs:List D):Bool:=decide (64<n) && elB ty (cs.headD .any) && cs.all (zEq (cs.headD .any))
noncomputable def newP(P:Program)(t:TypeId)(d:D)(f:Nat):M Re:=match P.underlying t with
 | some (.array n e)=>match d,tyOf P e with
  | .agg cs,some ty=>if ty.row=false∧ty.n=1∧cs.length=n∧cs.all D.one=true then(match bigZ n ty cs with
   | true=>.pure (.ok (.p f 0 0) [(f,.arr false e n (zr n (cs.headD .any)))])
   | false=>.pure (.ok (.p f 0 0) [(f,.arr true e n cs)]))else(if fitB P t d then .pure (.ok (.p f 0 0) [(f,.arr true t 1 [d])])else .bad 23)
  | _,_=>.bad 24
 | _=>if fitB P t d then .pure (.ok (.p f 0 0) [(f,.arr true t 1 [d])])else .bad 23
def fillD(place:Nat→Option (Nat×Nat)):List D→List (Nat×D)→Option (List D)
 | cs,[]=>some cs
 | cs,(i,d)::r=>match place i with
  | some (off,n)=>if d.cells.length=n∧off+n≤cs.length∧d.cells.all D.one=true then fillD place (cs.take off++d.cells++cs.drop (off+n)) r else none
  | none=>none
def placeF(P:Program)(t:TypeId):Option (Nat→Option (Nat×Nat)):=match placesOf P t with
 | some ps=>some fun i=>ps[i]?
 | none=>match arrOf P t with
  | some (_,e)=>(match szOf P e with
   | some n=>some fun i=>some (i*n,n)
   | none=>none)
  | none=>none
def buildP(P:Program)(t:TypeId)(parts:List (Nat×D)):M Re:=match placeF P t,zeroD P t with
 | some pf,some (.agg z)=>match fillD pf z parts with
  | some cs=>ok1 (.agg cs)
  | none=>.bad 25
 | _,_=>.bad 26
def seqIdx:List (Nat×D)→Nat→Bool
 | [],_=>true
 | (i,_)::r,k=>i == k && seqIdx r (k+1)
def buildS(P:Program)(t:TypeId)(n:Nat)(parts:List (Nat×D)):M Re:=match slElem P t with
 | some e=>match tyOf P e with
  | some ty=>if parts.length=n∧seqIdx parts 0=true∧0<n*ty.n∧n*ty.n≤16777216∧(zeroOf P e).isSome=true∧(parts.all fun p=>elB ty p.2.strip)=true then ok1 (.sl true e (parts.map fun p=>p.2.strip) .full)
   else if n=0∧parts=[]then ok1 (.sl true e [] .full)else .bad 27
  | none=>.bad 28
 | none=>.bad 28
def isIfc(P:Program)(t:TypeId):Bool:=match P.underlying t with
 | some (.interface _)=>true
 | _=>false
def nilCmp(P:Program)(t:TypeId)(cst neq:Bool)(x y:D):M Re:=match y with
 | .k (.slice none 0 0)=>if(slElem P t).isSome then(match x with
  | .sl _ _ _ .nil|.k (.slice none 0 0)=>ok1 (.k (.bool (!neq)))
  | .sl true _ (_::_) _=>ok1 (.k (.bool neq))
  | .sl _ _ l _=>.need (decide (0<l.length)) (ok1 (.k (.bool neq)))
  | .k (.slice (some _) _ _)=>ok1 (.k (.bool neq))
  | .k (.slice none _ _)=>ok1 (.k (.bool (!neq)))
  | _=>.bad 29)else .bad 29
 | .k .nilIface=>if isIfc P t=true∧cst=true then(match x with
  | .ifc _ _=>ok1 (.k (.bool neq))
  | .k .nilIface=>ok1 (.k (.bool (!neq)))
  | _=>.bad 29)else .bad 29
 | _=>.bad 29
def isNil:D→Bool
 | .k (.slice none 0 0)|.k .nilIface=>true
 | _=>false
abbrev EK:=_root_.Go.Proofs.YtmgcclhbbhbmcaaGreat.CK
def ekB:EK→D→Bool
 | .b,.k (.bool _)|.b,.v (.bool _)=>true
 | .s,.k (.string _)|.s,.v (.string _)=>true
 | .i k,.k (.int k' _)|.i k,.v (.int k' _)=>k == k'
 | _,_=>false
def ekL:List EK→List D→Bool
 | [],[]=>true
 | c::cs,d::ds=>ekB c d && ekL cs ds
 | _,_=>false
def eqP(P:Program)(neq:Bool)(t:TypeId)(a b:List D):M Re:=if rowOf P t=some true∧P.eqGuardType P.depth t=false then(match kindsT P 20 t,eqL a b with
 | some ks,some r=>if ekL ks a=true∧ekL ks b=true then ok1 (.v (.bool (bif neq then !r else r)))else .bad 30
 | _,_=>.bad 31)else .bad 32
def boolOk(P:Program)(t:TypeId):Value→Bool
 | .bool _=>(match P.underlying t with|some .bool=>true|_=>false)
 | _=>true
def isCst:Operand→Bool
 | .const _=>true
 | _=>false
def binP(P:Program)(op:BinOp)(t:TypeId)(cst:Bool)(x y:D):M Re:=match op,isNil y with
 | .eql,true=>nilCmp P t cst false x y
 | .neq,true=>nilCmp P t cst true x y
 | _,_=>match x,y with
  | .agg a,.agg b=>(match op with
   | .eql=>eqP P false t a b
   | .neq=>eqP P true t a b
   | _=>.bad 33)
  | _,_=>match sca x,sca y with
   | some (a,u),some (b,v)=>if boolOk P t u=false then .bad 34 else(match binR op u v with
    | some r=>needB (binC op v) b (ok1 (mkv (a && b) r))
    | none=>.bad 34)
   | _,_=>.bad 35
def unP(op:UnOp)(x:D):M Re:=match op,x with
 | .not,.k (.bool b)=>ok1 (.k (.bool (!b)))
 | .not,.v (.bool b)=>ok1 (.v (.bool (!b)))
 | .neg,.k (.int k i)=>ok1 (.k (.int k (k.wrap (-i))))
 | .neg,.v (.int k i)=>ok1 (.v (.int k (k.wrap (-i))))
 | .xor,.k (.int k i)=>ok1 (.k (.int k (k.wrap (BitVec.ofInt k.bits (if k.signed then -1 else k.max)^^^BitVec.ofInt k.bits i).toNat)))
 | .xor,.v (.int k i)=>ok1 (.v (.int k (k.wrap (BitVec.ofInt k.bits (if k.signed then -1 else k.max)^^^BitVec.ofInt k.bits i).toNat)))
 | _,_=>.bad 36
def bstr(P:Program)(e e':TypeId)(l:List D):M Re:=match P.underlying e,tyOf P e with
 | some (.int .u8),some ⟨false,[.i .u8]⟩=>if e'=e then ok1 (.v (.string (strOfNums (l.map D.int))))else .bad 38
 | _,_=>.bad 38
def convP(P:Program)(src dst:TypeId)(x:D):M Re:=match P.underlying src,P.underlying dst,x with
 | some (.int _),some (.int k),.k (.int _ i)=>ok1 (.k (.int k (k.wrap i)))
 | some (.int _),some (.int k),.v (.int _ i)=>ok1 (.v (.int k (k.wrap i)))
 | some (.slice e),some .string,.sl _ e' l _=>bstr P e e' l
 | _,_,_=>.bad 37
def notIfc(P:Program)(t:TypeId):Bool:=match P.underlying t with
 | some (.interface _)=>false
 | some _=>true
 | none=>false
def asrtP(P:Program)(t:TypeId)(ok:Bool)(x:D):M Re:=if notIfc P t then(match x with
 | .ifc t' d=>if t'=t then ok1 (match ok with|true=>.tup [d,.k (.bool true)]|false=>d)else(match ok,zeroD P t with
  | true,some z=>ok1 (.tup [z,.k (.bool false)])
  | _,_=>.bad 38)
 | .k .nilIface=>(match ok,zeroD P t with
  | true,some z=>ok1 (.tup [z,.k (.bool false)])
  | _,_=>.bad 38)
 | _=>.bad 39)else .bad 40
def shiftP(q:Nat):D→Option D
 | .p n i q0=>some (.p n i (q0+q))
 | .px n i q0=>some (.px n i (q0+q))
 | .ep d q0=>some (.ep d (q0+q))
 | _=>none
def elIdx(kn:Bool)(ty:Ty)(l:List D)(lit:Bool)(i:Int):M Re:=match kn,lit with
 | true,true=>if 0≤i then(match l[i.toNat]? with
  | some d=>ok1 (.ep d 0)
  | none=>.bad 41)else .bad 41
 | _,_=>.get l i fun d=>ok1 (.ep (eta ty d) 0)
def chain(i:Int)(k:Nat→M Re):Nat→Nat→M Re
 | 0,_=>.need false (.bad 42)
 | n+1,j=>.br (decide (i=(j:Int))) (k j) (chain i k n (j+1))
def idxA(P:Program)(t:TypeId)(x:D)(i:D)(bs:List Blk):M Re:=match asI i with
 | none=>.bad 43
 | some (lit,i)=>match slElem P t with
  | some e=>(match tyOf P e with
   | none=>.bad 45
   | some ty=>match x with
    | .sl kn e' l _=>if e'=e then elIdx kn ty l lit i else .bad 46
    | .ar kn n j len=>(match bs with
     | [.arr _ e' _ _]=>if e'=e then(match kn && lit with
      | true=>if 0≤i∧i<len then ok1 (.p n (j+i.toNat) 0)else .bad 47
      | false=>.need (decide (0≤i∧i<len)) (ok1 (.px n (j+i.toNat) 0)))else .bad 47
     | _=>.bad 47)
    | _=>.bad 48)
  | none=>match arrOf P t,x with
   | some (len,e),.p n j q=>(match szOf P e,bs with
    | some sz,[B]=>(match B with
     | .arr kn e' w _=>if e'=e∧j=0∧q=0∧w=len then(match lit with
      | true=>if 0≤i∧i<len then ok1 (.p n i.toNat 0)else .bad 49
      | false=>.need (decide (0≤i∧i<len)) (ok1 (.px n i.toNat 0)))
      else(match lit with
       | true=>if 0≤i∧i<len then ok1 (.p n j (q+i.toNat*sz))else .bad 50
       | false=>if len≤4 then chain i (fun m=>ok1 (.p n j (q+m*sz))) len 0 else .bad 51)
     | _=>.bad 52)
    | _,_=>.bad 53)
   | some (len,e),.ep d q=>(match szOf P e,lit with
    | some sz,true=>if 0≤i∧i<len then ok1 (.ep d (q+i.toNat*sz))else .bad 50
    | some sz,false=>if len≤4 then chain i (fun m=>ok1 (.ep d (q+m*sz))) len 0 else .bad 51
    | _,_=>.bad 53)
   | _,_=>.bad 54
def idxP(P:Program)(t:TypeId)(x:D)(i:D):M Re:=match asI i,arrOf P t,x with
 | some (lit,i),some (len,e),.agg cs=>(match szOf P e with
  | none=>.bad 55
  | some sz=>match lit with
   | true=>if 0≤i∧i<len then ok? (part P e cs (i.toNat*sz)) 56 else .bad 57
   | false=>if len≤4 then chain i (fun m=>ok? (part P e cs (m*sz)) 56) len 0 else .bad 51)
 | _,_,_=>.bad 58
def asO:Option D→Option (Option (Bool×Int))
 | none=>some none
 | some d=>(asI d).map some
def bnds(len:Nat):Option (Bool×Int)→Option (Bool×Int)→Option (Bool×Int)→Option (Bool×Bool×Nat×Nat)
 | lo,hi,mx =>
  let h:Bool×Int:=hi.getD (true,(len:Int))
  let l:Bool×Int:=lo.getD (true,0)
  match mx with
  | none=>some (decide (0≤l.2∧l.2≤h.2∧h.2≤(len:Int)),l.1 && h.1,l.2.toNat,h.2.toNat)
  | some m=>match hi with
   | none=>none
   | some _=>some (decide (0≤l.2∧l.2≤h.2∧h.2≤(len:Int)∧h.2=m.2),l.1 && h.1 && m.1,l.2.toNat,h.2.toNat)
def needK(c kn:Bool)(m:M Re):M Re:=match kn with
 | true=>match c with
  | true=>m
  | false=>.bad 59
 | false=>.need c m
def cutL(l:List D)(a b:Nat):List D:=(l.drop a).take (b-a)
def slcL(l:List D)(lo hi:Option (Bool×Int))(a b:Nat):List D:=match lo,hi with
 | none,none=>l
 | none,some _=>l.take b
 | some _,none=>l.drop a
 | some _,some _=>cutL l a b
def slcP(P:Program)(t:TypeId)(x:D)(lo hi mx:Option D)(bs:List Blk):M Re:=match asO lo,asO hi,asO mx with
 | some lo,some hi,some mx=>match slElem P t with
  | some e=>(match tyOf P e with
   | none=>.bad 59
   | some _=>match asL e x with
    | some (kn,l,tk)=>(match bnds l.length lo hi mx with
     | some (c,k,a,b)=>(match lo,hi,mx with
      | none,none,none=>ok1 (.sl kn e l tk)
      | _,_,_=>needK c (k && kn) (ok1 (.sl (k && kn) e (slcL l lo hi a b) (if mx.isSome then .full else .non))))
     | none=>.bad 60)
    | none=>match x with
     | .ar kn n i len=>(match bs with
      | [.arr _ e' _ _]=>if e'=e∧mx=none then(match bnds len lo hi none with
       | some (c,k,a,b)=>needK c (k && kn) (ok1 (.ar (k && kn) n (i+a) (b-a)))
       | none=>.bad 62)else .bad 61
      | _=>.bad 62)
     | _=>.bad 63)
  | none=>match arrOf P t,x,bs with
   | some (len,e),.p n 0 0,[.arr _ e' w _]=>if e'=e∧w=len∧mx=none then(match bnds len lo hi none with
    | some (c,k,a,b)=>needK c k (ok1 (.ar k n a (b-a)))
    | none=>.bad 62)else .bad 64
   | _,_,_=>.bad 66
 | _,_,_=>.bad 67
def srcP(e:TypeId)(ty:Ty)(y:D)(bs:List Blk):Option (Bool×List D):=match y with
 | .ar kn n i len=>(match bs with
  | [.arr kn' e' _ l]=>if e'=e then(if kn'=true∧(l.all (elB ty))=false then none else some (kn && kn',(l.drop i).take len))else none
  | _=>none)
 | y=>(asL e y).map fun(kn,l,_)=>(kn,l)
def bytes(P:Program)(e:TypeId):Option Nat:=(P.info? e).map (·.bytes)
def lit0:D→Bool
 | .sl true _ [] .full=>true
 | _=>false
def srcN(P:Program)(t' e:TypeId)(ty:Ty)(y:D)(bs:List Blk):Option (Bool×List D):=if slElem P t'=some e then srcP e ty y bs else none
def isOwn(x:D)(s:Option (Bool×List D)):Bool:=lit0 x && (match s with|some (kn,_)=>!kn|none=>false)
def appN(e:TypeId)(ty:Ty)(by' zs:Nat)(s:Option (Bool×List D))(f:Nat):M Re:=match s with
 | none=>.bad 72
 | some (_,xs)=>if by'≤64∧0<ty.n∧zs=ty.n then .need (decide (0<xs.length∧xs.length≤1099511627776)) (.pure (.ok (.ar false f 0 xs.length) [(f,.arr false e xs.length xs)]))else .bad 73
def appP(P:Program)(t t':TypeId)(x y:D)(bs:List Blk)(f:Nat):M Re:=match slElem P t with
 | none=>.bad 70
 | some e=>match tyOf P e,bytes P e,zeroOf P e with
  | some ty,some by',some z=>(match asL e x with
   | none=>.bad 71
   | some (kn,l,tk) =>
    let go (us:List (Nat×Blk)) (bs:List Blk):M Re:=match (if slElem P t'=some e then srcP e ty y bs else none)with
     | none=>.bad 72
     | some (kn',xs)=>if by'≤64∧0<ty.n∧z.cells.size=ty.n then needK (decide (l.length+xs.length≤1099511627776)) (kn && kn') (.pure (.ok (.sl (kn && kn') e (l++xs) (.tip f)) (us++[(f,.tip e)])))else .bad 73
    match isOwn x (srcN P t' e ty y bs)with
    | true=>appN e ty by' z.cells.size (srcN P t' e ty y bs) f
    | false=>match tk with
    | .non=>.bad 74
    | .full|.nil=>go [] bs
    | .tip n=>match bs with
     | .tip e'::bs=>if e'=e then go [(n,.dead)] bs else .bad 75
     | _=>.bad 75)
  | _,_,_=>.bad 76
def lenP(P:Program)(t:TypeId)(x:D):M Re:=match P.underlying t with
 | some .string=>(match x with
  | .k (.string s)=>ok1 (.k (.int .i64 s.size))
  | .v (.string s)=>ok1 (.v (.int .i64 s.size))
  | _=>.bad 77)
 | some (.slice e)=>(match asL e x with
  | some (kn,l,_)=>ok1 (mkv kn (.int .i64 (l.length:Int)))
  | none=>match x with
   | .ar kn _ _ len=>ok1 (mkv kn (.int .i64 (len:Int)))
   | _=>.bad 78)
 | _=>.bad 79
def mmP(mx:Bool)(x y:D):M Re:=match sca x,sca y with
 | some (a,.int k i),some (b,.int k' j)=>if k=k' then ok1 (mkv (a && b) (.int k (bif mx then(if i<j then j else i)else(if j<i then j else i))))else .bad 80
 | _,_=>.bad 81
def mx2(i j:Int):Int:=if i<j then j else i
def mm3(x y z:D):M Re:=match sca x,sca y,sca z with
 | some (_,.int k i),some (_,.int k' j),some (_,.int k'' m)=>if k=k'∧k=k'' then ok1 (.v (.int k (mx2 (mx2 i j) m)))else .bad 81
 | _,_,_=>.bad 80
def copyP(P:Program)(t t':TypeId)(x y:D)(bs:List Blk):M Re:=match slElem P t,x,bs with
 | some e,.ar kn n i len,B::bs=>(match B,tyOf P e with
  | .arr kna e' w l,some ty=>if e'=e∧ty.row=false∧ty.n=1∧slElem P t'=some e∧(kna=false∨l.all (elB ty)=true)then(match srcP e ty y bs with
   | some (kn',xs) =>
    if kn=true∧kn'=true∧kna=true then .pure (.ok (.k (.int .i64 (min len xs.length:Nat))) [(n,.arr true e w (l.take i++xs.take (min len xs.length)++l.drop (i+min len xs.length)))])
    else .pure (.ok (.v (.int .i64 (min len xs.length:Nat))) [(n,.arr false e w (l.take i++xs.take (min len xs.length)++l.drop (i+min len xs.length)))])
   | none=>.bad 82)else .bad 83
  | _,_=>.bad 84)
 | _,_,_=>.bad 85
noncomputable def mkSl(P:Program)(t:TypeId)(l c:D)(f:Nat):M Re:=match slElem P t,asI l,asI c with
 | some e,some (kn,n),some (kn',m)=>(match tyOf P e,zeroD P e,bytes P e with
  | some ty,some z,some by'=>if by'≤64∧szB ty z=true∧elB ty z=true then needK (decide (0≤n∧n=m∧n≤1099511627776)) (kn && kn') (match kn && kn' && decide (64<n.toNat)with
   | true=>.pure (.ok (.ar false f 0 n.toNat) [(f,.arr false e n.toNat (zr n.toNat z))])
   | false=>.pure (.ok (.ar (kn && kn') f 0 n.toNat) [(f,.arr (kn && kn') e n.toNat (List.replicate n.toNat z))]))else .bad 86
  | _,_,_=>.bad 87)
 | _,_,_=>.bad 88
def mapT(P:Program)(t:TypeId):Option (IntKind×TypeId):=match P.underlying t with
 | some (.map k e)=>match P.underlying k with
  | some (.int k)=>some (k,e)
  | _=>none
 | _=>none
def mkMap(P:Program)(t:TypeId)(f:Nat):M Re:=match mapT P t with
 | some (_,e)=>(match tyOf P e with
  | some _=>.pure (.ok (.mp f) [(f,.map true t [])])
  | none=>.bad 90)
 | none=>.bad 90
def keyP(k:IntKind):D→Option (Bool×Int)
 | .k (.int k' n)=>if k'=k then some (true,n)else none
 | .v (.int k' n)=>if k'=k then some (false,n)else none
 | _=>none
def updP(P:Program)(t:TypeId)(m k v:D)(bs:List Blk):M Re:=match mapT P t,m,bs with
 | some (kk,e),.mp n,[.map kn t' es]=>(match keyP kk k,tyOf P e with
  | some (_,i),some ty=>if t'=t∧szB ty v=true then(match kn with
   | true=>.pure (.ok .any [(n,.map true t ((i,v)::es))])
   | false=>if elB ty v then .pure (.ok .any [(n,.map false t ((i,v)::es))])else .bad 91)else .bad 91
  | _,_=>.bad 92)
 | _,_,_=>.bad 93
def lookK(i:Int)(k:Option D→M Re):List (Int×D)→M Re
 | []=>k none
 | (j,d)::r=>.br (decide (i=j)) (k (some d)) (lookK i k r)
def lkV(ok:Bool)(z:D)(o:Option D):D:=match ok with
 | true=>.tup [o.getD z,.k (.bool o.isSome)]
 | false=>o.getD z
def lkP(P:Program)(t:TypeId)(ok:Bool)(m k:D)(bs:List Blk):M Re:=match mapT P t,m,bs with
 | some (kk,e),.mp n,[.map kn t' es]=>(match keyP kk k,zeroD P e,tyOf P e with
  | some (_,i),some z,some ty=>if t'=t then(
   match kn with
   | true=>lookK i (fun o=>ok1 (lkV ok z o)) es
   | false=>.br (look es i).isSome (ok1 (lkV ok z (some (eta ty ((look es i).getD .any))))) (ok1 (lkV ok z none)))else .bad 94
  | _,_,_=>.bad 95)
 | _,_,_=>.bad 96
noncomputable def planA(P:Program)(o:Oper)(vs:List D)(bs:List Blk)(f:Nat):M Re:=match o.op with
 | .move _|.assign _=>p1 vs ok1
 | .pick ..=>p3 vs pickP
 | .alloc t=>(match zeroD P t with
  | some z=>newP P t z f
  | none=>.bad 100)
 | .box t _=>p1 vs fun d=>newP P t d f
 | .build t ps=>buildP P t ((ps.toList.map (·.1)).zip vs)
 | .buildSlice t n ps=>buildS P t n ((ps.toList.map (·.1)).zip vs)
 | .load t _=>p1 vs fun x=>(match x with
  | .ep d q=>ok? (part P t d.cells q) 101
  | .p _ i q=>(match bs with|[B]=>ldP P t B true i q|_=>.bad 102)
  | .px _ i q=>(match bs with|[B]=>ldP P t B false i q|_=>.bad 102)
  | _=>.bad 103)
 | .store t _ _=>p2 vs fun x y=>(match x with
  | .p n i q=>(match bs with|[B]=>stP P t n B true i q y|_=>.bad 104)
  | .px n i q=>(match bs with|[B]=>stP P t n B false i q y|_=>.bad 104)
  | _=>.bad 105)
 | .nilCheck _=>p1 vs fun x=>(match x with
  | .p ..|.px ..|.ep ..=>ok1 x
  | _=>.bad 106)
 | .binOp op t _ y _=>p2 vs (binP P op t (isCst y))
 | .unOp op _ _=>p1 vs (unP op)
 | .convert s d _=>p1 vs (convP P s d)
 | .makeInterface t _=>p1 vs fun x=>if notIfc P t then ok1 (.ifc t x)else .bad 107
 | .makeFunc fn a c=>if vs.length=a.size+c.size then ok1 (.fn fn (vs.take a.size) (vs.drop a.size))else .bad 108
 | .makeMap t none=>mkMap P t f
 | .makeSlice t _ _=>p2 vs fun l c=>mkSl P t l c f
 | .slice t _ lo hi mx=>(match vs,lo.isSome,hi.isSome,mx.isSome with
  | [x],false,false,false=>slcP P t x none none none bs
  | [x,a],true,false,false=>slcP P t x (some a) none none bs
  | [x,a],false,true,false=>slcP P t x none (some a) none bs
  | [x,a,b],true,true,false=>slcP P t x (some a) (some b) none bs
  | [x,a,b],false,true,true=>slcP P t x none (some a) (some b) bs
  | [x,a,b,c],true,true,true=>slcP P t x (some a) (some b) (some c) bs
  | _,_,_,_=>.bad 109)
 | .fieldAddr t _ fl=>p1 vs fun x=>(match fieldOff P t fl with
  | some d=>ok? (shiftP d x) 110
  | none=>.bad 111)
 | .field t _ fl=>p1 vs fun x=>(match fldOf P t fl,x with
  | some (off,e),.agg cs=>ok? (part P e cs off) 112
  | _,_=>.bad 113)
 | .indexAddr t _ _=>p2 vs fun x i=>idxA P t x i bs
 | .index t _ _=>p2 vs (idxP P t)
 | .lookup t _ _ ok=>p2 vs fun m k=>lkP P t ok m k bs
 | .insert t _ _ _|.mapUpdate t _ _ _=>p3 vs fun m k v=>updP P t m k v bs
 | .typeAssert _ _ t ok=>p1 vs (asrtP P t ok)
 | .extract _ i=>p1 vs fun x=>(match x with
  | .tup l=>ok? (l[i]?) 114
  | _=>.bad 115)
 | .call c=>(match c.callee with
  | .builtin .len=>p1 vs fun x=>(match c.argTypes.toList with|[t]=>lenP P t x|_=>.bad 116)
  | .builtin .append=>p2 vs fun x y=>(match c.argTypes.toList with|[t,t']=>appP P t t' x y bs f|_=>.bad 117)
  | .builtin .copy=>p2 vs fun x y=>(match c.argTypes.toList with|[t,t']=>copyP P t t' x y bs|_=>.bad 118)
  | .builtin .min=>p2 vs (mmP false)
  | .builtin .max=>(match vs with|[x,y,z]=>mm3 x y z|vs=>p2 vs (mmP true))
  | _=>.bad 119)
 | .panic _=>p1 vs fun x=>(match x with
  | .ifc _ _=>.pure (.pan x)
  | _=>.bad 121)
 | _=>.bad 120
end Z
end Go.Proofs.YtmgcclhbbhbmcaaGreat
namespace Go.Proofs.YtmgcclhbbhbmcaaGreat
open Go Go.RowKit
namespace Z
section
variable {P:Program}{E:LId→LSt→M Rd1}{Γ:Cn}{w0:World}{ms:Ms}{h:Heap}{α α':Al}{I I':Gh}{W W':World}{o:Oper}{a:Act}
theorem ty_of{t:TypeId}{ty:Ty}(h:tyOf P t=some ty):szOf P t=some ty.n∧rowOf P t=some ty.row∧(ty.row=true∨ty.n=1):=by
 unfold tyOf at h
 split at h
 ·rename_i ks n r h1 h2 h3
  split at h
  ·rename_i hc
   injection h with h
   subst h
   exact⟨by rw [h2,← hc.1];rfl,h3,hc.2.imp id fun h=>hc.1.trans h⟩
  cases h
 cases h
def upd(h:Heap)(us:List (Nat×Blk)):Heap:=us.foldl (fun h u=>put h u.1 u.2) h
def OkOp(P:Program)(w0:World)(ms:Ms)(o:Oper)(a:Act)(h:Heap)(α:Al)(I:Gh)(W:World)(d:D)(us:List (Nat×Blk)):Prop :=
 ∃ x v W' α' I',(execOp a.eval o).run P W=.ok x W'∧(x=.value v∨(x=.skip∧v=undef))∧LeI I I'∧LeA α α'∧HInv P (tyOf P) w0 ms (upd h us) α' I' W'∧Den (tyOf P) I' α' d v
theorem OkOp.val(hi:HInv P (tyOf P) w0 ms h α I W){v:Value}{d:D}(hr:(execOp a.eval o).run P W=.ok (.value v) W)(hd:Den (tyOf P) I α d v):OkOp P w0 ms o a h α I W d [] :=
 ⟨_,v,W,α,I,hr,.inl rfl,.refl _,.refl _,hi,hd⟩
theorem ev_p1{vs:List D}{k:D→M Re}{r:Re}(he:Ev E Γ Re (p1 vs k) r):∃ x,vs=[x]∧Ev E Γ Re (k x) r:=by
 unfold p1 at he;split at he
 ·exact⟨_,rfl,he⟩
 cases he
theorem ev_p2{vs:List D}{k:D→D→M Re}{r:Re}(he:Ev E Γ Re (p2 vs k) r):∃ x y,vs=[x,y]∧Ev E Γ Re (k x y) r:=by
 unfold p2 at he;split at he
 ·exact⟨_,_,rfl,he⟩
 cases he
theorem ev_p3{vs:List D}{k:D→D→D→M Re}{r:Re}(he:Ev E Γ Re (p3 vs k) r):∃ x y z,vs=[x,y,z]∧Ev E Γ Re (k x y z) r:=by
 unfold p3 at he;split at he
 ·exact⟨_,_,_,rfl,he⟩
 cases he
theorem ev_ok1{d:D}{r:Re}(he:Ev E Γ Re (ok1 d) r):r=.ok d []:=by cases he;rfl
theorem ev_ok? {d:Option D}{n:Nat}{r:Re}(he:Ev E Γ Re (ok? d n) r):∃ x,d=some x∧r=.ok x []:=by
 unfold ok? at he;split at he
 ·exact⟨_,rfl,ev_ok1 he⟩
 cases he
theorem ev_pure{d:D}{us:List (Nat×Blk)}{r:Re}(he:Ev E Γ Re (.pure (.ok d us)) r):r=.ok d us:=by cases he;rfl
theorem ev_needK{c kn:Bool}{m:M Re}{r:Re}(he:Ev E Γ Re (needK c kn m) r):c=true∧Ev E Γ Re m r:=by
 unfold needK at he
 split at he
 ·split at he
  ·exact⟨rfl,he⟩
  cases he
 cases he with
 | need h hm=>exact⟨h,hm⟩
theorem ev_needB{c:Option Bool}{kn:Bool}{m:M Re}{r:Re}(he:Ev E Γ Re (needB c kn m) r):(∀ b,c=some b→b=true)∧Ev E Γ Re m r:=by
 unfold needB at he
 split at he
 ·exact⟨(fun b hb=>nomatch hb),he⟩
 ·split at he
  ·exact⟨fun b hb=>(Option.some.inj hb).symm,he⟩
  cases he
 cases he with
 | need h hm=>exact⟨fun b hb=>by rw [← Option.some.inj hb];exact h,hm⟩
def cellsAt(W:World)(b o n:Nat):Array Value:=((List.range n).map fun j=>(W.cell? ⟨b,o+j,none⟩).getD undef).toArray
theorem cellsAt_get{b o' n j:Nat}(hj:j<n):(cellsAt W b o' n)[j]?=some ((W.cell? ⟨b,o'+j,none⟩).getD undef):=by
 simp [cellsAt,hj]
theorem load_part{t:TypeId}{cs:List D}{q b o':Nat}{d:D}(hp:part P t cs q=some d)(hc:∀ (j:Nat) e,cs[j]?=some e→∃ x,W.cell? ⟨b,o'+j,none⟩=some x∧Den (tyOf P) I α e x) :
 ∃ v,(loadVar t ⟨b,o'+q,none⟩).run P W=.ok v W∧Den (tyOf P) I α d v:=by
 unfold part at hp
 split at hp
 ·rename_i n hs hr
  split at hp
  ·rename_i hq
   injection hp with hp
   subst hp
   have hsz:(cellsAt W b (o'+q) n).size=n:=by simp [cellsAt]
   refine⟨.agg (cellsAt W b (o'+q) n),run_load_cells hr (by rw [hs,hsz]) fun j u hu=>?_,.agg (by simp [hsz];omega) fun j e x h1 h2=>?_⟩
   ·have hj:j<n:=by rw [← hsz];exact(Array.getElem?_eq_some_iff.1 hu).1
    rw [cellsAt_get hj]at hu
    obtain⟨x,h1,_⟩:=hc (q+j) cs[q+j] (List.getElem?_eq_getElem (by omega))
    have e1:o'+(q+j)=o'+q+j:=by omega
    rw [e1]at h1
    rw [h1]at hu
    rw [add_zero_addr,h1,← hu];rfl
   have hj:j<n:=by rw [← hsz];exact(Array.getElem?_eq_some_iff.1 h2).1
   rw [cellsAt_get hj]at h2
   rw [List.getElem?_take,if_pos hj,List.getElem?_drop]at h1
   obtain⟨y,h3,h4⟩:=hc (q+j) e h1
   have e1:o'+(q+j)=o'+q+j:=by omega
   rw [e1]at h3
   rw [h3]at h2
   obtain rfl:y=x:=by simpa using h2
   exact h4
  cases hp
 ·rename_i hs hr
  split at hp
  ·rename_i e he
   split at hp
   ·injection hp with hp
    subst hp
    obtain⟨x,h1,h2⟩:=hc q _ he
    exact⟨x,run_load_cell hr h1,h2⟩
   cases hp
  cases hp
 cases hp
theorem agg_part{t:TypeId}{cs:List D}{q:Nat}{d:D}{c:Array Value}(hp:part P t cs q=some d)(hc:Den (tyOf P) I α (.agg cs) (.agg c)) :
 ∃ v,(Go.part t c q).run P W=.ok v W∧Den (tyOf P) I α d v:=by
 cases hc with
 | agg hl hd =>
  unfold part at hp
  split at hp
  ·rename_i n hs hr
   split at hp
   ·rename_i hq
    injection hp with hp
    subst hp
    refine⟨.agg (c.extract q (q+n)),by simp [Go.part,Sem.run_bind,run_rowOf hr,run_szOf hs],.agg (by simp;omega) fun j e x h1 h2=>?_⟩
    rw [Array.getElem?_extract]at h2
    split at h2
    ·rw [List.getElem?_take]at h1
     split at h1
     ·rw [List.getElem?_drop]at h1
      exact hd _ _ _ h1 h2
     cases h1
    cases h2
   cases hp
  ·rename_i hs hr
   split at hp
   ·rename_i e he
    split at hp
    ·injection hp with hp
     subst hp
     have hq:q<c.size:=by rw [← hl];exact(List.getElem?_eq_some_iff.1 he).1
     exact⟨c[q],by simp [Go.part,Sem.run_bind,run_rowOf hr,Array.getElem?_eq_getElem hq],hd _ _ _ he (Array.getElem?_eq_getElem hq)⟩
    cases hp
   cases hp
  cases hp
theorem elB_ok{ty:Ty}{d:D}(h:elB ty d=true):szB ty d=true∧ckL ty.ks d.cells=true:=by
 simpa [elB]using h
theorem szB_ok{ty:Ty}{d:D}(h:szB ty d=true):SzOk ty d∧∀ e∈d.cells,e.one=true:=by
 unfold szB at h
 unfold SzOk
 cases hr:ty.row with
 | true =>
  rw [hr]at h
  cases d with
  | agg l =>
   simp only [Bool.and_eq_true,beq_iff_eq,List.all_eq_true]at h
   exact⟨⟨l,rfl,h.1⟩,h.2⟩
  | _=>cases h
 | false =>
  rw [hr]at h
  simp only [Bool.and_eq_true,beq_iff_eq]at h
  have h1:∀ l,d≠.agg l:=by rintro l rfl;cases h.2
  exact⟨⟨h1,h.1⟩,fun e he=>by rw [cells_one h1]at he;obtain rfl:=List.mem_singleton.1 he;exact h.2⟩
theorem ckB_ok{c:CK}{d:D}(h:ckB c d=true):CkOk c d:=by
 unfold ckB at h
 split at h
 ·rename_i k k' n;exact⟨n,.inl (by rw [beq_iff_eq.1 h])⟩
 ·rename_i k k' n;exact⟨n,.inr (by rw [beq_iff_eq.1 h])⟩
 ·exact⟨_,.inl rfl⟩
 ·exact⟨_,.inr rfl⟩
 ·exact⟨_,.inl rfl⟩
 ·exact⟨_,.inr rfl⟩
 ·exact⟨_,_,_,by rw [beq_iff_eq.1 h]⟩
 ·exact h
 cases h
theorem ckL_ok:∀ {cs:List CK}{ds:List D},ckL cs ds=true→(∀ (j:Nat) c e,cs[j]?=some c→ds[j]?=some e→CkOk c e)∧∀ e∈ds,e.one=true∧e.pure=true
 | [],[],_=>⟨fun j c e h=>by simp at h,fun e h=>by simp at h⟩
 | c::cs,d::ds,h=>by
  simp only [ckL,Bool.and_eq_true]at h
  obtain⟨⟨⟨h1,h2⟩,h3⟩,h4⟩:=h
  obtain⟨ih1,ih2⟩:=ckL_ok h4
  refine⟨fun j c' e hc he=>?_,fun e he=>?_⟩
  ·cases j with
   | zero =>
    obtain rfl:c=c':=by simpa using hc
    obtain rfl:d=e:=by simpa using he
    exact ckB_ok h1
   | succ j=>exact ih1 j c' e (by simpa using hc) (by simpa using he)
  rcases List.mem_cons.1 he with rfl|he
  ·exact⟨h2,h3⟩
  exact ih2 e he
 | [],_::_,h=>by simp [ckL]at h
 | _::_,[],h=>by simp [ckL]at h
theorem elB_el{ty:Ty}{d:D}(h:elB ty d=true):ElOk ty d∧(∀ e∈d.cells,e.one=true∧e.pure=true):=by
 obtain⟨h1,h2⟩:=elB_ok h
 exact⟨⟨(szB_ok h1).1,(ckL_ok h2).1,fun e he=>((ckL_ok h2).2 e he).2⟩,(ckL_ok h2).2⟩
theorem Den.strip1{d:D}{x:Value}(h:Den (tyOf P) I α d x):Den (tyOf P) I α d.strip1 x:=by
 cases h with
 | sl hc hk hm =>
  rename_i tk _ _
  cases tk with
  | tip n=>exact .sl hc trivial hm
  | _=>exact .sl hc hk hm
 | k h=>exact .k h
 | v h=>exact .v h
 | agg hl hd=>exact .agg hl hd
 | tup hl hd=>exact .tup hl hd
 | mem g h1 h2 h3 h4=>exact .mem g h1 h2 h3 h4
 | ep g h1 h2=>exact .ep g h1 h2
 | p h=>exact .p h
 | px h=>exact .px h
 | ar h1 h2 h3 h4=>exact .ar h1 h2 h3 h4
 | fn h1 h2 h3 h4=>exact .fn h1 h2 h3 h4
 | mp h=>exact .mp h
 | ifc h=>exact .ifc h
 | y h=>exact .y h
 | any=>exact .any
theorem Den.strip{d:D}{x:Value}(h:Den (tyOf P) I α d x):Den (tyOf P) I α d.strip x:=by
 cases d with
 | agg l =>
  cases h with
  | agg hl hd =>
   refine .agg (by simpa using hl) fun j e y h1 h2=>?_
   rw [List.getElem?_map]at h1
   obtain⟨e',h3,rfl⟩:=Option.map_eq_some_iff.1 h1
   exact(hd j e' y h3 h2).strip1
 | _=>exact Den.strip1 h
theorem Den.cells{d:D}{x:Value}(h:Den (tyOf P) I α d x)(h1:∀ e∈d.cells,e.one=true):x.cells.size=d.cells.length∧∀ (j:Nat) e,d.cells[j]?=some e→∃ y,x.cells[j]?=some y∧Den (tyOf P) I α e y∧e.one=true:=by
 by_cases ha:∃ l,d=.agg l
 ·obtain⟨l,rfl⟩:=ha
  cases h with
  | agg hl hd =>
   rename_i c
   refine⟨hl.symm,fun j e he=>?_⟩
   have hj:j<c.size:=by rw [← hl];exact(List.getElem?_eq_some_iff.1 he).1
   exact⟨c[j],Array.getElem?_eq_getElem hj,hd j e _ he (Array.getElem?_eq_getElem hj),h1 e (List.mem_of_getElem? he)⟩
 have hc:=cells_one (d:=d) fun l hl=>ha ⟨l,hl⟩
 have h2:d.one=true:=h1 d (by rw [hc];simp)
 have h3:=h.cells1 h2
 rw [h3,hc]
 refine⟨rfl,fun j e he=>?_⟩
 cases j with
 | zero =>
  obtain rfl:d=e:=by simpa using he
  exact⟨x,rfl,h,h2⟩
 | succ j=>simp at he
theorem one_all{d:D}{x:Value}(h:Den (tyOf P) I α d x)(h1:∀ e∈d.cells,e.one=true):x.cells.all (·.oneCell')=true:=by
 obtain⟨h2,h3⟩:=h.cells h1
 rw [Array.all_eq_true_iff_forall_mem]
 intro y hy
 obtain⟨j,hj,rfl⟩:=Array.mem_iff_getElem.1 hy
 obtain⟨z,h4,h5,h6⟩:=h3 j d.cells[j] (List.getElem?_eq_getElem (by omega))
 rw [Array.getElem?_eq_getElem hj]at h4
 obtain rfl:=Option.some.inj h4
 exact h5.one h6
end
end Z
end Go.Proofs.YtmgcclhbbhbmcaaGreat
namespace Go.Proofs.YtmgcclhbbhbmcaaGreat
open Go Go.RowKit
namespace Z
section
variable {P:Program}{E:LId→LSt→M Rd1}{Γ:Cn}{w0:World}{ms:Ms}{h:Heap}{α α':Al}{I I':Gh}{W W':World}{o:Oper}{a:Act}
theorem sum_const{β:Type}(l:List β)(n:Nat):(l.map fun _=>n).sum=l.length*n:=by
 induction l with
 | nil=>simp
 | cons x l ih=>rw [List.map_cons,List.sum_cons,ih,List.length_cons,Nat.add_mul];omega
theorem run_load{t:TypeId}{x:Operand}{ad:Addr}{v:Value}(ho:o.op=.load t x)(hx:a.eval x=.pointer (some ad))(hl:(loadVar t ad).run P W=.ok v W):(execOp a.eval o).run P W=.ok (.value v) W:=by
 unfold execOp
 simp only [ho,hx,Instr.loadAt,Instr.sureAddr,Sem.run_bind,Sem.run_pure,Result.andThen_ok,hl]
theorem run_store'{t:TypeId}{x y:Operand}{ad:Addr}{v:Value}(ho:o.op=.store t x y)(hx:a.eval x=.pointer (some ad))(hy:a.eval y=v)(hl:(storeVar t ad v).run P W=.ok () W'):(execOp a.eval o).run P W=.ok .skip W':=by
 unfold execOp
 simp only [ho,hx,hy,Instr.storeAt,Instr.sureAddr,Sem.run_bind,Sem.run_pure,Result.andThen_ok,hl]
theorem store_at{k off:Nat}{c:Array Value}{v:Value}{t ty:TypeId}(hg:W.heap[k]?=some (.cells c t (0,0)))(hs:szOf P ty=some v.cells.size)(hlt:off+v.cells.size≤c.size)(h1:v.cells.all (·.oneCell')=true) :
 (storeVar ty ⟨k,off,none⟩ v).run P W=.ok () (W.setRow k (splice c off v.cells)):=by
 have:=run_storeCells_at (P:=P) k off t v.cells.toList 0 c W hg (by simp;omega) (fun v hv=>(Array.all_eq_true_iff_forall_mem.1 h1) v (by simpa using hv))
 simp only [Nat.add_zero,Array.length_toList]at this
 simp [storeVar,Sem.run_bind,run_szOf hs,this,splice]
theorem splice_get{c cs:Array Value}{off k:Nat}(h:off+cs.size≤c.size):(splice c off cs)[k]?=if off≤k∧k<off+cs.size then cs[k-off]? else c[k]?:=by
 unfold splice
 simp only [List.getElem?_toArray]
 by_cases h1:k<off
 ·rw [if_neg (by omega),List.append_assoc,List.getElem?_append_left (by simp;omega),List.getElem?_take,if_pos h1,Array.getElem?_toList]
 by_cases h2:k<off+cs.size
 ·rw [if_pos ⟨by omega,h2⟩,List.append_assoc,List.getElem?_append_right (by simp;omega),List.getElem?_append_left (by simp;omega)]
  simp [Nat.min_eq_left (show off≤c.size by omega)]
 rw [if_neg (by omega),List.getElem?_append_right (by simp;omega),List.getElem?_drop]
 simp only [List.length_append,List.length_take,Array.length_toList,Nat.min_eq_left (show off≤c.size by omega)]
 rw [show off+cs.size+(k-(off+cs.size))=k by omega,Array.getElem?_toList]
theorem elem_ok{kn lit:Bool}{ty:Ty}{l:List D}{i:Nat}{k:D→M Re}{r:Re}(hk:kn=false→∀ d∈l,ElOk ty d)(he:Ev E Γ Re (elem kn lit ty l i k) r):∃ d0 d,l[i]?=some d0∧(d=d0∨(d=eta ty d0∧ElOk ty d0))∧Ev E Γ Re (k d) r:=by
 unfold elem at he
 split at he
 ·split at he
  ·rename_i d hd;exact⟨d,d,hd,.inl rfl,he⟩
  cases he
 ·split at he
  ·rename_i ha
   cases he with
   | get h0 h1 hk' =>
    rename_i d
    refine⟨d,_,by simpa using h1,.inr ⟨rfl,?_⟩,hk'⟩
    exact(elB_el (List.all_eq_true.1 ha d (List.mem_of_getElem? h1))).1
  cases he
 cases he with
 | get h0 h1 hk' =>
  rename_i d
  exact⟨d,_,by simpa using h1,.inr ⟨rfl,hk rfl d (List.mem_of_getElem? h1)⟩,hk'⟩
theorem etaC_one{c:CK}{d:D}(h:d.one=true):(etaC c d).one=true:=by cases c<;>first|rfl|exact h
theorem etaC_cell{c:CK}{d:D}(h:∀ l,d≠.agg l):(etaC c d).cells=[etaC c d]:=by
 cases c<;>first|rfl|exact cells_one h
theorem eta_cells{ty:Ty}{d:D}(he:ElOk ty d){j:Nat}{e:D}(h:(eta ty d).cells[j]?=some e):∃ e0,d.cells[j]?=some e0∧∀ {I:Gh}{α:Al}{x:Value},Den (tyOf P) I α e0 x→Den (tyOf P) I α e x∧(e0.one=true→e.one=true):=by
 obtain⟨hs,hc,_⟩:=he
 have hlen:=hs.len
 unfold SzOk at hs
 unfold eta at h
 split at h
 ·rename_i hr
  simp only [D.cells]at h
  rw [etaL_get,Nat.zero_add]at h
  obtain⟨c,h1,rfl⟩:=Option.map_eq_some_iff.1 h
  have hj:j<d.cells.length:=by rw [hlen];exact(List.getElem?_eq_some_iff.1 h1).1
  have hcell:d.cell j=d.cells[j]:=by simp [D.cell,List.getD_eq_getElem?_getD,List.getElem?_eq_getElem hj]
  rw [hcell]
  exact⟨d.cells[j],List.getElem?_eq_getElem hj,fun hx=>⟨etaC_ok (hc j c _ h1 (List.getElem?_eq_getElem hj)) hx,etaC_one⟩⟩
 rename_i hr
 rw [hr]at hs
 rw [etaC_cell hs.1]at h
 have h1:=hs.2
 match hks:ty.ks with
 | [c] =>
  rw [hks]at h
  cases j with
  | succ j=>simp at h
  | zero =>
   obtain rfl:etaC c d=e:=by simpa using h
   exact⟨d,by rw [cells_one hs.1];rfl,fun hx=>⟨etaC_ok (hc 0 c d (by rw [hks];rfl) (by rw [cells_one hs.1];rfl)) hx,etaC_one⟩⟩
 | []=>simp [Ty.n,hks]at h1
 | _::_::_=>simp [Ty.n,hks]at h1
theorem elem_cells{ty:Ty}{d0 d:D}{g:Nat→Option Value}(h:d=d0∨(d=eta ty d0∧ElOk ty d0))(hc:∀ (j:Nat) e,d0.cells[j]?=some e→∃ x,g j=some x∧Den (tyOf P) I α e x∧e.one=true) :
 ∀ (j:Nat) e,d.cells[j]?=some e→∃ x,g j=some x∧Den (tyOf P) I α e x∧e.one=true:=by
 rcases h with rfl|⟨rfl,he⟩
 ·exact hc
 intro j e h1
 obtain⟨e0,h2,h3⟩:=eta_cells (P:=P) he h1
 obtain⟨x,h4,h5,h6⟩:=hc j e0 h2
 exact⟨x,h4,(h3 h5).1,(h3 h5).2 h6⟩
theorem eta_n{ty:Ty}{d:D}(h:ElOk ty d):(eta ty d).cells.length=ty.n:=by
 obtain⟨hs,hc,_⟩:=h
 unfold SzOk at hs
 unfold eta
 split
 ·exact etaL_len _ _ _
 rename_i hr
 rw [hr]at hs
 rw [etaC_cell hs.1,hs.2];rfl
theorem HInv.arr(hi:HInv P (tyOf P) w0 ms h α I W){n:Nat}{kn:Bool}{e:TypeId}{w:Nat}{l:List D}{r:Reg}(hn:at_ h n=.arr kn e w l)(hr:α n=some r):r.v=false∧r.w=w∧l.length=w∧∃ ty c tt,tyOf P e=some ty∧r.s=ty.n∧W.heap[r.b]?=some (.cells c tt (0,0))∧(l.length*ty.n≤c.size∧(kn=true→c.size=l.length*ty.n))∧(∀ o,I r.b o=none)∧(∀ d∈l,SzOk ty d)∧(kn=false→∀ d∈l,ElOk ty d∧d.cells.all D.pure=true)∧Laid (tyOf P) I α ty.n l fun q=>c[q]?:=by
 obtain⟨r',h1,h2,h3⟩:=hi.liv n (by rw [hn];rfl)
 rw [hr]at h1
 obtain rfl:=Option.some.inj h1
 rw [hn]at h3
 exact h3
theorem ldv_ok(hi:HInv P (tyOf P) w0 ms h α I W){t:TypeId}{n i q:Nat}{lit:Bool}{r:Reg}{re:Re}(hr:α n=some r)
 (he:Ev E Γ Re (ldP P t (at_ h n) lit i q) re):∃ d v,re=.ok d []∧(loadVar t ⟨r.b,i*r.s+q,none⟩).run P W=.ok v W∧Den (tyOf P) I α d v:=by
 unfold ldP at he
 split at he
 ·rename_i kn e w l hB
  obtain⟨_,hrw,hlw,ty,c,tt,h1,h2,h3,h4,h5,h6,h7,h8⟩:=hi.arr hB hr
  rw [h1]at he
  dsimp only at he
  have hcell:∀ k,W.cell? ⟨r.b,k,none⟩=c[k]?:=fun k=>cell_of_row W r.b k c tt (0,0) h3
  split at he
  ·rename_i hc
   obtain⟨hte,hat,rfl,rfl,rfl,rfl⟩:=hc
   split at he
   ·rename_i hall
    obtain⟨hall,hsz⟩:=hall
    obtain rfl:=ev_ok1 he
    have hrow:rowOf P t=some true:=by
     unfold rowOf;rw [arrOf_eq hat];rfl
    have hl:=run_load_sub (P:=P) (off:=0) h3 hrow (by rw [hsz,h4.2 rfl,hlw]) (Nat.le_of_eq (Nat.zero_add _))
    rw [show c.extract 0 (0+c.size)=c by simp]at hl
    refine⟨_,_,rfl,(by simpa using hl),.agg ?_ ?_⟩
    ·rw [h4.2 rfl,List.length_flatMap]
     have:l.map (fun d=>d.cells.length)=l.map fun _=>ty.n:=List.map_congr_left fun d hd=>(h6 d hd).len
     rw [this];exact sum_const l ty.n
    intro j e x hj hx
    have key:∀ (l:List D) (b:Nat),(∀ (i:Nat) d,l[i]?=some d→d.cells.length=ty.n)→(∀ (i j:Nat) d e,l[i]?=some d→d.cells[j]?=some e→∃ x,c[(b+i)*ty.n+j]?=some x∧Den (tyOf P) I α e x∧e.one=true)→∀ j e,(l.flatMap D.cells)[j]?=some e→∃ x,c[b*ty.n+j]?=some x∧Den (tyOf P) I α e x:=by
     intro l
     induction l with
     | nil=>intro b _ _ j e h;simp at h
     | cons d l ih =>
      intro b hlen hc j e hj
      rw [List.flatMap_cons]at hj
      have hd:=hlen 0 d rfl
      by_cases hlt:j<ty.n
      ·rw [List.getElem?_append_left (by omega)]at hj
       obtain⟨x,h1,h2,_⟩:=hc 0 j d e rfl hj
       exact⟨x,h1,h2⟩
      rw [List.getElem?_append_right (by omega),hd]at hj
      obtain⟨x,h1,h2⟩:=ih (b+1) (fun i d h=>hlen (i+1) d h) (fun i j d e h1 h2=>by
       have:=hc (i+1) j d e h1 h2
       rwa [show b+(i+1)=b+1+i by omega]at this) (j-ty.n) e hj
      refine⟨x,?_,h2⟩
      rw [← h1];congr 1
      rw [Nat.add_mul];omega
    obtain⟨y,h9,h10⟩:=key l 0 h8.1 (fun i j d e h1 h2=>by simpa using h8.2 i j d e h1 h2) j e hj
    simp only [Nat.zero_mul,Nat.zero_add]at h9
    rw [hx]at h9
    obtain rfl:=Option.some.inj h9
    exact h10
   cases he
  obtain⟨d0,d,hd0,hd,he⟩:=elem_ok (fun hk d hd=>(h7 hk d hd).1) he
  split at he
  ·obtain⟨y,hp,rfl⟩:=ev_ok? he
   have hcs:=elem_cells (g:=fun j=>W.cell? ⟨r.b,i*ty.n+j,none⟩) hd fun j e he=>by
    obtain⟨x,h9,h10⟩:=h8.2 i j d0 e hd0 he
    exact⟨x,(hcell _).trans h9,h10⟩
   obtain⟨v,hl,hv⟩:=load_part (W:=W) (b:=r.b) (o':=i*ty.n) hp fun j e he=>by
    obtain⟨x,h9,h10,_⟩:=hcs j e he
    exact⟨x,h9,h10⟩
   exact⟨_,v,rfl,(by rw [h2];exact hl),hv⟩
  cases he
 cases he
theorem ld_ok(hi:HInv P (tyOf P) w0 ms h α I W){t:TypeId}{xo:Operand}{n i q:Nat}{lit:Bool}{r:Reg}{re:Re}(ho:o.op=.load t xo)(hr:α n=some r)(hx:a.eval xo=.pointer (some ⟨r.b,i*r.s+q,none⟩))
 (he:Ev E Γ Re (ldP P t (at_ h n) lit i q) re):∃ d,re=.ok d []∧OkOp P w0 ms o a h α I W d []:=by
 obtain⟨d,v,h1,h2,h3⟩:=ldv_ok hi hr he
 exact⟨d,h1,.val hi (run_load ho hx h2) h3⟩
theorem ldep_ok(hi:HInv P (tyOf P) w0 ms h α I W){t:TypeId}{xo:Operand}{d y:D}{q n:Nat}{re:Re}(ho:o.op=.load t xo)(hx:Den (tyOf P) I α (.ep d q) (a.eval xo))(he:Ev E Γ Re (ok? (part P t d.cells q) n) re):∃ d,re=.ok d []∧OkOp P w0 ms o a h α I W d []:=by
 obtain⟨y,hp,rfl⟩:=ev_ok? he
 refine⟨_,rfl,?_⟩
 generalize hv:a.eval xo=v at hx
 cases hx with
 | ep g hI hd =>
  obtain⟨v,hl,hv'⟩:=load_part (W:=W) hp fun j e he=>⟨_,hi.gh _ _ _ (hI j (List.getElem?_eq_some_iff.1 he).1),(hd j e he).mono (.refl _) (.non _)⟩
  exact .val hi (run_load ho hv hl) hv'
theorem into_cells{ty:Ty}{d y:D}{q k:Nat}(h1:szB ty d=true)(h2:szB ty (into k d q y)=true)(hq:q+k≤ty.n)(hk:y.cells.length=k):(into k d q y).cells=d.cells.take q++y.cells++d.cells.drop (q+k):=by
 by_cases ha:∃ l,d=.agg l
 ·obtain⟨l,rfl⟩:=ha;rfl
 have hna:∀ l,d≠.agg l:=fun l hl=>ha ⟨l,hl⟩
 have hin:into k d q y=y:=by cases d<;>first|rfl|exact absurd rfl (hna _)
 rw [hin]at h2 ⊢
 have hs:=(szB_ok h1).1
 unfold SzOk at hs
 cases hr:ty.row with
 | true=>rw [hr]at hs;obtain⟨l,hl,_⟩:=hs;exact absurd hl (hna l)
 | false =>
  rw [hr]at hs
  have h3:=(szB_ok h2).1.len
  have hk1:k=1:=by rw [← hk,h3];exact hs.2
  have hq0:q=0:=by have:=hs.2;omega
  subst hk1;subst hq0
  rw [cells_one hna];simp
theorem szB_strip{y:D}:y.strip.cells.length=y.cells.length:=by
 cases y with
 | agg l=>simp [D.strip,D.cells]
 | sl kn t l tk=>cases tk<;>rfl
 | _=>rfl
theorem strip1_one{d:D}:d.strip1.one=d.one:=by
 cases d with
 | sl kn t l tk=>cases tk<;>rfl
 | _=>rfl
theorem strip_ones{y:D}(h:∀ e∈y.cells,e.one=true):∀ e∈y.strip.cells,e.one=true:=by
 cases y with
 | agg l =>
  intro e he
  simp only [D.strip,D.cells]at he
  obtain⟨e',h1,rfl⟩:=List.mem_map.1 he
  rw [strip1_one];exact h e' h1
 | sl kn t l tk=>cases tk<;>(intro e he;obtain rfl:=List.mem_singleton.1 he;rfl)
 | _=>exact h
theorem st_core(hi:HInv P (tyOf P) w0 ms h α I W){t e:TypeId}{xo yo:Operand}{n i q k w:Nat}{kn kn':Bool}{l:List D}{r:Reg}{ty:Ty}{d0 d y:D}(ho:o.op=.store t xo yo)(hr:α n=some r)(hx:a.eval xo=.pointer (some ⟨r.b,i*r.s+q,none⟩))
 (hB:at_ h n=.arr kn e w l) (hty:tyOf P e=some ty) (hk:szOf P t=some k) (hq:q+k≤ty.n) (hyl:y.cells.length=k) (hy1:∀ c∈y.cells,c.one=true) (hy:Den (tyOf P) I α y (a.eval yo))
 (hd0:l[i]?=some d0) (hd:d=d0∨(d=eta ty d0∧ElOk ty d0)) (hsd:szB ty d=true) (hs2:szB ty (into k d q y)=true)
 (hkn:kn'=false→ElOk ty (into k d q y)∧(∀ c∈(into k d q y).cells,c.pure=true)∧∀ x∈l,ElOk ty x∧x.cells.all D.pure=true) (hkk:kn'=true→kn=true):OkOp P w0 ms o a h α I W .any [(n,.arr kn' e w (l.set i (into k d q y)))]:=by
 obtain⟨hv,hrw,hlw,ty',c,tt,h1,h2,h3,h4,h5,h6,h7,h8⟩:=hi.arr hB hr
 rw [hty]at h1
 obtain rfl:=Option.some.inj h1
 obtain⟨hvs,hvc⟩:=hy.cells hy1
 have hil:i<l.length:=(List.getElem?_eq_some_iff.1 hd0).1
 have hin:i*ty.n+q+k≤c.size:=by
  refine Nat.le_trans ?_ h4.1
  have:(i+1)*ty.n≤l.length*ty.n:=Nat.mul_le_mul_right _ hil
  rw [Nat.add_mul]at this
  omega
 have hst:=store_at (P:=P) (W:=W) (k:=r.b) (off:=i*ty.n+q) (v:=a.eval yo) (ty:=t) h3 (by rw [hk,hvs,hyl]) (by rw [hvs,hyl];exact hin) (one_all hy hy1)
 have hdc:=elem_cells (g:=fun j=>c[i*ty.n+j]?) hd fun j e' he'=>h8.2 i j d0 e' hd0 he'
 have hic:=into_cells hsd hs2 hq hyl
 have hspl:∀ m,(splice c (i*ty.n+q) (a.eval yo).cells)[m]?=if i*ty.n+q≤m∧m<i*ty.n+q+k then(a.eval yo).cells[m-(i*ty.n+q)]? else c[m]?:=fun m=>by
  rw [splice_get (by rw [hvs,hyl];exact hin),hvs,hyl]
 refine⟨_,undef,_,α,I,run_store' ho (by rw [hx,h2]) rfl hst,.inr ⟨rfl,rfl⟩,.refl _,.refl _,?_,.any⟩
 have hbl:r.b<W.heap.size:=(Array.getElem?_eq_some_iff.1 h3).1
 refine hi.reput hr hv (by rw [hB];rfl) ⟨rfl,rfl,rfl,by simp [World.setRow],fun b hb hn=>heap_setRow_other W r.b b _ (by simpa using hn)⟩ h5 (fun h=>nomatch h) (fun _ h=>nomatch h) ⟨hv,hrw,by simpa using hlw,ty,splice c (i*ty.n+q) (a.eval yo).cells,tt,hty,h2,?_,?_,h5,?_,?_,?_,?_⟩
 ·rw [World.setRow,Array.getElem?_modify,if_pos rfl,h3];rfl
 ·rw [splice_size (by rw [hvs,hyl];exact hin),List.length_set];exact⟨h4.1,fun hk=>h4.2 (hkk hk)⟩
 ·intro d' hd'
  rcases List.mem_or_eq_of_mem_set hd' with hd'|rfl
  ·exact h6 d' hd'
  exact(szB_ok hs2).1
 ·intro hk' d' hd'
  obtain⟨a1,a2,a3⟩:=hkn hk'
  rcases List.mem_or_eq_of_mem_set hd' with hd'|rfl
  ·exact a3 d' hd'
  exact⟨a1,List.all_eq_true.2 a2⟩
 ·intro j d' hd'
  rw [List.getElem?_set]at hd'
  by_cases hij:i=j
  ·rw [if_pos hij,if_pos (hij▸hil)]at hd'
   obtain rfl:=Option.some.inj hd';exact(szB_ok hs2).1.len
  rw [if_neg hij]at hd';exact h8.1 j d' hd'
 intro i' j d' e' hd' he'
 show ∃ x,(splice c (i*ty.n+q) (a.eval yo).cells)[i'*ty.n+j]?=some x∧_
 rw [hspl]
 rw [List.getElem?_set]at hd'
 by_cases hii:i=i'
 ·subst hii
  rw [if_pos rfl,if_pos hil]at hd'
  obtain rfl:=Option.some.inj hd'
  have hdl:=(szB_ok hsd).1.len
  rw [hic]at he'
  by_cases hj1:j<q
  ·rw [List.append_assoc,List.getElem?_append_left (by simp;omega),List.getElem?_take,if_pos hj1]at he'
   rw [if_neg (by omega)]
   exact hdc j e' he'
  by_cases hj2:j<q+k
  ·rw [List.append_assoc,List.getElem?_append_right (by simp;omega),List.getElem?_append_left (by simp;omega)]at he'
   simp only [List.length_take,Nat.min_eq_left (show q≤d.cells.length by omega)]at he'
   rw [if_pos (by omega),show i*ty.n+j-(i*ty.n+q)=j-q by omega]
   exact hvc (j-q) e' he'
  rw [List.getElem?_append_right (by simp;omega),List.getElem?_drop]at he'
  simp only [List.length_append,List.length_take,Nat.min_eq_left (show q≤d.cells.length by omega),hyl]at he'
  rw [show q+k+(j-(q+k))=j by omega]at he'
  rw [if_neg (by omega)]
  exact hdc j e' he'
 rw [if_neg hii]at hd'
 have hj:j<ty.n:=by rw [← h8.1 i' d' hd'];exact(List.getElem?_eq_some_iff.1 he').1
 have hne:¬ (i*ty.n+q≤i'*ty.n+j∧i'*ty.n+j<i*ty.n+q+k):=by
  intro hc
  rcases Nat.lt_or_gt_of_ne hii with hlt|hlt
  ·have:(i+1)*ty.n≤i'*ty.n:=Nat.mul_le_mul_right _ hlt
   rw [Nat.add_mul]at this
   omega
  have:(i'+1)*ty.n≤i*ty.n:=Nat.mul_le_mul_right _ hlt
  rw [Nat.add_mul]at this
  omega
 rw [if_neg hne]
 exact h8.2 i' j d' e' hd' he'
theorem st_all(hi:HInv P (tyOf P) w0 ms h α I W){t e:TypeId}{xo yo:Operand}{n w:Nat}{l:List D}{r:Reg}{ty:Ty}{y:D}(ho:o.op=.store t xo yo)(hr:α n=some r)(hx:a.eval xo=.pointer (some ⟨r.b,0,none⟩))
 (hB:at_ h n=.arr true e w l) (hty:tyOf P e=some ty) (hrow:ty.row=false) (hn1:ty.n=1) (hk:szOf P t=some w) (hyl:y.cells.length=w) (hy1:∀ c∈y.cells,c.one=true) (hy:Den (tyOf P) I α y (a.eval yo)):OkOp P w0 ms o a h α I W .any [(n,.arr true e w y.cells)]:=by
 obtain⟨hv,hrw,hlw,ty',c,tt,h1,h2,h3,h4,h5,h6,h7,h8⟩:=hi.arr hB hr
 rw [hty]at h1
 obtain rfl:=Option.some.inj h1
 obtain⟨hvs,hvc⟩:=hy.cells hy1
 have hcs:c.size=w:=by rw [h4.2 rfl,hlw,hn1,Nat.mul_one]
 have hst:=store_at (P:=P) (W:=W) (k:=r.b) (off:=0) (v:=a.eval yo) (ty:=t) h3 (by rw [hk,hvs,hyl]) (by rw [hvs,hyl,hcs];omega) (one_all hy hy1)
 have hna:∀ d∈y.cells,∀ l,d≠.agg l:=fun d hd l e=>by have:=hy1 d hd;rw [e]at this;cases this
 refine⟨_,undef,_,α,I,run_store' ho hx rfl hst,.inr ⟨rfl,rfl⟩,.refl _,.refl _,?_,.any⟩
 refine hi.reput hr hv (by rw [hB];rfl) ⟨rfl,rfl,rfl,by simp [World.setRow],fun b hb hn=>heap_setRow_other W r.b b _ (by simpa using hn)⟩ h5 (fun h=>nomatch h) (fun _ h=>nomatch h) ⟨hv,hrw,hyl,ty,splice c 0 (a.eval yo).cells,tt,hty,h2,?_,?_,h5,?_,(fun h=>nomatch h),?_,?_⟩
 ·rw [World.setRow,Array.getElem?_modify,if_pos rfl,h3];rfl
 ·rw [splice_size (by rw [hvs,hyl,hcs];omega),hcs,hyl,hn1,Nat.mul_one];exact⟨Nat.le_refl _,fun _=>rfl⟩
 ·intro d hd
  unfold SzOk
  rw [hrow]
  exact⟨hna d hd,hn1⟩
 ·intro j d hd
  rw [cells_one (hna d (List.mem_of_getElem? hd)),hn1];rfl
 intro i j d e' hd he'
 rw [cells_one (hna d (List.mem_of_getElem? hd))]at he'
 cases j with
 | zero =>
  obtain rfl:d=e':=by simpa using he'
  obtain⟨x,q1,q2,q3⟩:=hvc i d hd
  refine⟨x,?_,q2,q3⟩
  show(splice c 0 (a.eval yo).cells)[i*ty.n+0]?=some x
  rw [splice_get (off:=0) (by rw [hvs,hyl,hcs];omega),hn1,Nat.mul_one,Nat.add_zero]
  have hil:=(List.getElem?_eq_some_iff.1 hd).1
  rw [if_pos ⟨Nat.zero_le _,by rw [hvs];omega⟩,Nat.sub_zero]
  exact q1
 | succ j=>simp at he'
end
end Z
end Go.Proofs.YtmgcclhbbhbmcaaGreat
namespace Go.Proofs.YtmgcclhbbhbmcaaGreat
open Go Go.RowKit
namespace Z
section
variable {P:Program}{E:LId→LSt→M Rd1}{Γ:Cn}{w0:World}{ms:Ms}{h:Heap}{α α':Al}{I I':Gh}{W W':World}{o:Oper}{a:Act}
theorem st_ok(hi:HInv P (tyOf P) w0 ms h α I W){t:TypeId}{xo yo:Operand}{n i q:Nat}{lit:Bool}{r:Reg}{y:D}{re:Re}(ho:o.op=.store t xo yo)(hr:α n=some r)(hx:a.eval xo=.pointer (some ⟨r.b,i*r.s+q,none⟩))
 (hy:Den (tyOf P) I α y (a.eval yo)) (he:Ev E Γ Re (stP P t n (at_ h n) lit i q y) re):∃ d us,re=.ok d us∧OkOp P w0 ms o a h α I W d us:=by
 unfold stP at he
 split at he
 ·rename_i kn e w l hB
  split at he
  ·rename_i ty k hty hk
   split at he
   ·rename_i hw
    unfold wholeB at hw
    simp only [Bool.and_eq_true,beq_iff_eq,decide_eq_true_eq,Bool.not_eq_true']at hw
    obtain⟨⟨⟨⟨⟨⟨⟨⟨⟨⟨rfl,rfl⟩,rfl⟩,rfl⟩,_⟩,_⟩,hsz⟩,hrow⟩,hn1⟩,hyl⟩,hy1⟩:=hw
    obtain rfl:=ev_pure he
    exact⟨_,_,rfl,st_all hi ho hr (by rw [hx];simp) hB hty hrow hn1 hsz hyl (List.all_eq_true.1 hy1) hy⟩
   split at he
   ·rename_i hc
    obtain⟨hq,hyl,hy1⟩:=hc
    have hy1:∀ c∈y.cells,c.one=true:=List.all_eq_true.1 hy1
    obtain⟨_,_,_,ty',c,tt,h1,h2,h3,h4,h5,h6,h7,h8⟩:=hi.arr hB hr
    rw [hty]at h1
    obtain rfl:=Option.some.inj h1
    have hst:∀ {kn:Bool} {d:D} (hB:at_ h n=.arr kn e w l),(∃ d0,l[i]?=some d0∧(d=d0∨(d=eta ty d0∧ElOk ty d0)))→elB ty (into k d q y.strip)=true∧szB ty d=true→(kn=false∨∀ x∈l,elB ty x=true)→OkOp P w0 ms o a h α I W .any [(n,.arr false e w (l.set i (into k d q y.strip)))]:=by
     intro kn d hB ⟨d0,hd0,hd⟩ ⟨hc1,hc2⟩ hkn
     obtain⟨_,_,_,ty',c,tt,h1,h2,h3,h4,h5,h6,h7,h8⟩:=hi.arr hB hr
     rw [hty]at h1
     obtain rfl:=Option.some.inj h1
     obtain⟨a1,a2⟩:=elB_el hc1
     refine st_core hi ho hr hx hB hty hk hq (szB_strip.trans hyl) (strip_ones hy1) hy.strip hd0 hd hc2 (elB_ok hc1).1 (fun _=>⟨a1,fun c hc=>(a2 c hc).2,fun x hx=>?_⟩) fun h=>nomatch h
     rcases hkn with rfl|hkn
     ·exact h7 rfl x hx
     obtain⟨b1,b2⟩:=elB_el (hkn x hx)
     exact⟨b1,List.all_eq_true.2 fun e he=>(b2 e he).2⟩
    split at he
    ·rename_i hB'
     split at he
     ·rename_i d hd
      split at he
      ·rename_i hc
       obtain rfl:=ev_pure he
       exact⟨_,_,rfl,st_core hi ho hr hx hB hty hk hq hyl hy1 hy hd (.inl rfl) hc.1 hc.2 (fun h=>nomatch h) fun _=>rfl⟩
      cases he
     cases he
    ·split at he
     ·rename_i hall
      obtain⟨d0,d,hd0,hd,he⟩:=elem_ok (kn:=true) (fun h=>nomatch h) he
      split at he
      ·rename_i hc
       obtain rfl:=ev_pure he
       exact⟨_,_,rfl,hst hB ⟨d0,hd0,hd⟩ hc (.inr (List.all_eq_true.1 hall))⟩
      cases he
     cases he
    obtain⟨d0,d,hd0,hd,he⟩:=elem_ok (fun hk d hd=>(h7 hk d hd).1) he
    split at he
    ·rename_i hc
     obtain rfl:=ev_pure he
     exact⟨_,_,rfl,hst hB ⟨d0,hd0,hd⟩ hc (.inl rfl)⟩
    cases he
   cases he
  cases he
 cases he
theorem new_arr(hi:HInv P (tyOf P) w0 ms h α I W){f:Nat}(hf:at_ h f=.non){e tt:TypeId}{ty:Ty}{l:List D}{c:Array Value}{kn:Bool}{w:Nat}(hty:tyOf P e=some ty)(hlw:l.length=w)(hc:c.size=l.length*ty.n)(hs:∀ d∈l,SzOk ty d)
 (hkn:kn=false→∀ d∈l,ElOk ty d∧d.cells.all D.pure=true) (hl:Laid (tyOf P) I α ty.n l fun q=>c[q]?) :
 HInv P (tyOf P) w0 ms (put h f (.arr kn e w l)) (α.set f { b:=W.heap.size,s:=ty.n,w:=w,c:=w }) I (W.alloc (.cells c tt)):=by
 refine hi.new hf (fun _=>Nat.le_refl _) (Stp.below (St.below_alloc _ _)) (.refl _) (fun b o' x hx=>.inl hx) (fun _ _ _ h=>h) (fun h=>nomatch h) ⟨rfl,rfl,hlw,ty,c,tt,hty,rfl,heap_alloc_last W _,⟨Nat.le_of_eq hc.symm,fun _=>hc⟩,fun o'=>?_,hs,hkn,hl.mono (.refl _) (Al.set_le (hi.fresh hf))⟩
 cases hx:I W.heap.size o' with
 | none=>rfl
 | some x=>have:=block_lt_of_cell (hi.gh _ _ _ hx);simp at this
theorem ev_ite{c:Prop} [Decidable c] {x y:M Re}{r:Re}(he:Ev E Γ Re (if c then x else y) r):(c∧Ev E Γ Re x r)∨(¬ c∧Ev E Γ Re y r):=by
 split at he
 ·exact .inl ⟨‹_›,he⟩
 exact .inr ⟨‹_›,he⟩
theorem fitB_ok{t:TypeId}{d:D}(h:fitB P t d=true):∃ ty,tyOf P t=some ty∧szB ty d=true:=by
 unfold fitB at h
 split at h
 ·exact⟨_,‹_›,h⟩
 cases h
theorem den_p0{n:Nat}{r:Reg}(hr:α n=some r):Den (tyOf P) I α (.p n 0 0) (.pointer (some ⟨r.b,0,none⟩)):=by
 have:=Den.p (T:=tyOf P) (I:=I) (i:=0) (q:=0) hr
 simpa using this
theorem newP_ok(hi:HInv P (tyOf P) w0 ms h α I W){t:TypeId}{d:D}{v:Value}{f:Nat}{re:Re}(hf:at_ h f=.non)(hd:Den (tyOf P) I α d v)(he:Ev E Γ Re (newP P t d f) re)
 (hrun:(execOp a.eval o).run P W=.ok (.value (.pointer (some ⟨W.heap.size,0,none⟩))) (W.alloc (.cells v.cells t))):∃ d us,re=.ok d us∧OkOp P w0 ms o a h α I W d us:=by
 have hone:fitB P t d=true→Ev E Γ Re (.pure (.ok (.p f 0 0) [(f,.arr true t 1 [d])])) re→∃ d us,re=.ok d us∧OkOp P w0 ms o a h α I W d us:=by
  intro hfit he
  obtain rfl:=ev_pure he
  obtain⟨ty,hty,hsz⟩:=fitB_ok hfit
  obtain⟨hs1,hs2⟩:=szB_ok hsz
  obtain⟨hc1,hc2⟩:=hd.cells hs2
  refine⟨_,_,rfl,_,_,_,_,I,hrun,.inl rfl,.refl _,Al.set_le (hi.fresh hf),new_arr hi hf hty rfl (by rw [hc1,hs1.len];simp) (fun x hx=>by obtain rfl:=List.mem_singleton.1 hx;exact hs1) (fun h=>nomatch h) ⟨fun i x hx=>?_,fun i j x e hx he=>?_⟩,den_p0 Al.set_eq⟩
  ·obtain⟨-,rfl⟩:i=0∧d=x:=by cases i<;>simp at hx ⊢;exact hx
   exact hs1.len
  obtain⟨rfl,rfl⟩:i=0∧d=x:=by cases i<;>simp at hx ⊢;exact hx
  simpa using hc2 j e he
 unfold newP at he
 split at he
 ·split at he
  ·rename_i n e hu _ _ cs ty hty
   rcases ev_ite he with ⟨⟨hrow,hn1,hcl,hall⟩,he⟩|⟨_,he⟩
   ·have hall:∀ c∈cs,c.one=true:=List.all_eq_true.1 hall
    obtain⟨hc1,hc2⟩:=hd.cells (d:=.agg cs) hall
    have hc1':v.cells.size=cs.length:=hc1
    have hna:∀ x∈cs,∀ l,x≠.agg l:=by rintro x hx l rfl;cases hall _ hx
    obtain⟨kn,hkn,he⟩:∃ kn,(kn=false→∀ d∈cs,ElOk ty d∧d.cells.all D.pure=true)∧Ev E Γ Re (.pure (.ok (.p f 0 0) [(f,.arr kn e n cs)])) re:=by
     split at he
     ·rename_i hb
      simp only [bigZ,Bool.and_eq_true]at hb
      obtain⟨⟨_,hb1⟩,hb2⟩:=hb
      have hz:∀ d∈cs,d=cs.headD .any:=fun d hd=>(zEq_eq (List.all_eq_true.1 hb2 d hd)).symm
      have e1:zr n (cs.headD .any)=cs:=(zr_eq ..).trans (List.eq_replicate_iff.2 ⟨hcl,hz⟩).symm
      rw [e1]at he
      refine⟨false,fun _ d hd=>?_,he⟩
      obtain⟨k1,k2⟩:=elB_el hb1
      rw [hz d hd]
      exact⟨k1,List.all_eq_true.2 fun e he=>(k2 e he).2⟩
     exact⟨true,(fun h=>nomatch h),he⟩
    obtain rfl:=ev_pure he
    refine⟨_,_,rfl,_,_,_,_,I,hrun,.inl rfl,.refl _,Al.set_le (hi.fresh hf),new_arr hi hf hty hcl (by rw [hc1',hn1];simp) (fun x hx=>?_) hkn ⟨fun i x hx=>?_,fun i j x e' hx he'=>?_⟩,den_p0 Al.set_eq⟩
    ·unfold SzOk;rw [hrow];exact⟨hna x hx,hn1⟩
    ·rw [cells_one (hna x (List.mem_of_getElem? hx)),hn1];rfl
    rw [cells_one (hna x (List.mem_of_getElem? hx))]at he'
    cases j with
    | succ j=>simp at he'
    | zero =>
     obtain rfl:x=e':=by simpa using he'
     obtain⟨y,h1,h2⟩:=hc2 i x hx
     exact⟨y,by rw [hn1];simpa using h1,h2⟩
   rcases ev_ite he with ⟨hfit,he⟩|⟨_,he⟩
   ·exact hone hfit he
   cases he
  cases he
 rcases ev_ite he with ⟨hfit,he⟩|⟨_,he⟩
 ·exact hone hfit he
 cases he
theorem zeroC_ok{c:CK}{v:Value}{d:D}(hz:zeroC c v=some d):Den (tyOf P) I α d v∧d.one=true:=by
 unfold zeroC at hz
 split at hz
 ·injection hz with hz;subst hz
  exact⟨.sl (l:=[]) (Nat.le_refl _) ⟨rfl,rfl,rfl⟩ fun h=>absurd rfl h,rfl⟩
 ·cases hz
 split at hz
 ·rename_i h1
  injection hz with hz;subst hz
  exact⟨.k h1,rfl⟩
 cases hz
theorem zeroL_ok:∀ {cs:List CK}{vs:List Value}{l:List D},zeroL cs vs=some l→l.length=vs.length∧∀ (j:Nat) d x,l[j]?=some d→vs[j]?=some x→Den (tyOf P) I α d x∧d.one=true
 | [],[],l,hz=>by
  obtain rfl:[]=l:=by simpa [zeroL]using hz
  exact⟨rfl,fun j d x h=>by simp at h⟩
 | c::cs,v::vs,l,hz=>by
  unfold zeroL at hz
  split at hz
  ·rename_i d l' h1 h2
   injection hz with hz;subst hz
   obtain⟨h3,h4⟩:=zeroL_ok h2
   refine⟨by simp [h3],fun j d' x h5 h6=>?_⟩
   cases j with
   | zero =>
    obtain rfl:d=d':=by simpa using h5
    obtain rfl:v=x:=by simpa using h6
    exact zeroC_ok h1
   | succ j=>exact h4 j d' x (by simpa using h5) (by simpa using h6)
  cases hz
 | [],_::_,l,hz=>by simp [zeroL]at hz
 | _::_,[],l,hz=>by simp [zeroL]at hz
theorem zeroD_ok{t:TypeId}{d:D}(hz:zeroD P t=some d):∃ z,zeroOf P t=some z∧Den (tyOf P) I α d z:=by
 unfold zeroD at hz
 split at hz
 ·rename_i ty z h1 h2
  refine⟨z,h2,?_⟩
  split at hz
  ·rename_i c hrow
   obtain⟨l,h3,rfl⟩:=Option.map_eq_some_iff.1 hz
   obtain⟨h4,h5⟩:=zeroL_ok (P:=P) (I:=I) (α:=α) h3
   exact .agg (by simpa using h4) fun j d x h6 h7=>(h5 j d x h6 (by simpa using h7)).1
  ·exact(zeroC_ok hz).1
  cases hz
 cases hz
theorem run_alloc{t:TypeId}{z:Value}(ho:o.op=.alloc t)(hz:zeroOf P t=some z):(execOp a.eval o).run P W=.ok (.value (.pointer (some ⟨W.heap.size,0,none⟩))) (W.alloc (.cells z.cells t)):=by
 unfold execOp
 simp only [ho,go_sem,Instr.alloc,newVar,newRow,Sem.run_bind,run_zeroOf hz,Result.andThen_ok]
 cases z<;>simp [Value.cells,go_sem]
theorem run_box{t:TypeId}{x:Operand}{v:Value}(ho:o.op=.box t x)(hx:a.eval x=v):(execOp a.eval o).run P W=.ok (.value (.pointer (some ⟨W.heap.size,0,none⟩))) (W.alloc (.cells v.cells t)):=by
 unfold execOp
 simp only [ho,hx,Instr.box,newVar,newRow]
 simp [go_sem]
end
end Z
end Go.Proofs.YtmgcclhbbhbmcaaGreat
namespace Go.Proofs.YtmgcclhbbhbmcaaGreat
open Go Go.RowKit
namespace Z
section
variable {P:Program}{E:LId→LSt→M Rd1}{Γ:Cn}{w0:World}{ms:Ms}{h:Heap}{α α':Al}{I I':Gh}{W W':World}{o:Oper}{a:Act}
def Val(P:Program)(o:Oper)(a:Act)(α:Al)(I:Gh)(W:World)(re:Re):Prop:=∃ d v,re=.ok d []∧(execOp a.eval o).run P W=.ok (.value v) W∧Den (tyOf P) I α d v
theorem Val.okOp{re:Re}(hv:Val P o a α I W re)(hi:HInv P (tyOf P) w0 ms h α I W):∃ d us,re=.ok d us∧OkOp P w0 ms o a h α I W d us:=by
 obtain⟨d,v,rfl,h1,h2⟩:=hv
 exact⟨d,[],rfl,.val hi h1 h2⟩
theorem Val.ok1{d:D}{v:Value}{re:Re}(he:Ev E Γ Re (ok1 d) re)(hr:(execOp a.eval o).run P W=.ok (.value v) W)(hd:Den (tyOf P) I α d v):Val P o a α I W re:=⟨d,v,ev_ok1 he,hr,hd⟩
theorem sca_ok{d:D}{b:Bool}{u x:Value}(h:sca d=some (b,u))(hd:Den (tyOf P) I α d x):x=u∧u.oneCell'=true:=by
 unfold sca at h
 split at h
 ·injection h with h;injection h with h1 h2;subst h2
  cases hd;exact⟨rfl,‹_›⟩
 ·injection h with h;injection h with h1 h2;subst h2
  cases hd;exact⟨rfl,‹_›⟩
 cases h
theorem mkv_den{b:Bool}{x:Value}(h:x.oneCell'=true):Den (tyOf P) I α (mkv b x) x:=by cases b<;>first|exact .k h|exact .v h
theorem asI_ok{d:D}{b:Bool}{i:Int}{x:Value}(h:asI d=some (b,i))(hd:Den (tyOf P) I α d x):∃ k,x=.int k i:=by
 unfold asI at h
 split at h
 ·injection h with h;injection h with h1 h2;subst h2;cases hd;exact⟨_,rfl⟩
 ·injection h with h;injection h with h1 h2;subst h2;cases hd;exact⟨_,rfl⟩
 cases h
theorem asL_ok{t:TypeId}{d:D}{kn:Bool}{l:List D}{tk:Tok}{x:Value}(h:asL t d=some (kn,l,tk))(hd:Den (tyOf P) I α d x):Den (tyOf P) I α (.sl kn t l tk) x:=by
 unfold asL at h
 split at h
 ·split at h
  ·rename_i e
   injection h with h
   injection h with h1 h2;injection h2 with h2 h3
   subst h1;subst h2;subst h3;subst e
   exact hd
  cases h
 ·injection h with h
  injection h with h1 h2;injection h2 with h2 h3
  subst h1;subst h2;subst h3
  cases hd
  exact .sl (l:=[]) (Nat.le_refl _) ⟨rfl,rfl,rfl⟩ fun h=>absurd rfl h
 ·injection h with h
  injection h with h1 h2;injection h2 with h2 h3
  subst h1;subst h2;subst h3
  cases hd with
  | k _=>exact .sl (l:=[]) (Nat.zero_le _) trivial fun h=>absurd rfl h
 cases h
theorem slElem_u{t e:TypeId}(h:slElem P t=some e):P.underlying t=some (.slice e):=by
 unfold slElem at h
 split at h
 ·rename_i hu;injection h with h;rw [← h];exact hu
 cases h
theorem pick_ok{x y z:Operand}{c p q:D}{re:Re}(ho:o.op=.pick x y z)(hx:Den (tyOf P) I α c (a.eval x))(hy:Den (tyOf P) I α p (a.eval y))(hz:Den (tyOf P) I α q (a.eval z))(he:Ev E Γ Re (pickP c p q) re):Val P o a α I W re:=by
 have hrun:∀ b,a.eval x=.bool b→(execOp a.eval o).run P W=.ok (.value (if b then a.eval y else a.eval z)) W:=fun b hb=>by
  simp [execOp,ho,hb,asBool]
 unfold pickP at he
 split at he
 ·rename_i b
  generalize hv:a.eval x=v at hx
  cases hx
  refine .ok1 he (hrun b hv) ?_
  cases b<;>first|exact hy|exact hz
 ·rename_i b
  generalize hv:a.eval x=v at hx
  cases hx
  split at he
  ·rename_i h1 h2
   obtain⟨e1,_⟩:=sca_ok h1 hy
   obtain⟨e2,_⟩:=sca_ok h2 hz
   refine .ok1 he (hrun b hv) ?_
   rw [e1,e2]
   cases b<;>exact .v rfl
  cases he
 cases he
theorem run_binR{op:BinOp}{t t':TypeId}{x y:Operand}{c d u:Value}(hop:o.op=.binOp op t x y t')(hx:a.eval x=c)(hy:a.eval y=d)(hu:binR op c d=some u)(hc:∀ b,binC op d=some b→b=true)
 (hb:∀ p q,c=.bool p→d=.bool q→P.underlying t=some .bool):(execOp a.eval o).run P W=.ok (.value u) W∧u.oneCell'=true:=by
 unfold binR at hu
 split at hu
 ·rename_i k i k' j
  split at hu
  ·have hj:¬ j<0:=by have:=hc _ rfl;simpa using this
   injection hu with hu
   subst hu
   exact⟨by simp [execOp,hop,hx,hy,eqGuard,binOp,Op.shift,hj],rfl⟩
  ·have hj:¬ j<0:=by have:=hc _ rfl;simpa using this
   injection hu with hu
   subst hu
   exact⟨by simp [execOp,hop,hx,hy,eqGuard,binOp,Op.shift,hj],rfl⟩
  split at hu
  ·rename_i hk
   subst hk
   split at hu
   ·have hj:¬ j=0:=by have:=hc _ rfl;simpa using this
    injection hu with hu
    subst hu
    exact⟨by simp [execOp,hop,hx,hy,eqGuard,binOp,Op.intDiv,hj],rfl⟩
   ·have hj:¬ j=0:=by have:=hc _ rfl;simpa using this
    injection hu with hu
    subst hu
    exact⟨by simp [execOp,hop,hx,hy,eqGuard,binOp,Op.intDiv,hj],rfl⟩
   ·injection hu with hu
    subst hu
    exact⟨by simp [execOp,hop,hx,hy,eqGuard,binOp,Op.intBits],rfl⟩
   ·injection hu with hu
    subst hu
    exact⟨by simp [execOp,hop,hx,hy,eqGuard,binOp,Op.intBits],rfl⟩
   ·injection hu with hu
    subst hu
    exact⟨by simp [execOp,hop,hx,hy,eqGuard,binOp,Op.intBits],rfl⟩
   cases op<;>simp only [binI,Option.some.injEq,reduceCtorEq]at hu<;>subst hu<;>exact⟨by simp [execOp,hop,hx,hy,eqGuard,binOp,Op.intArith,Op.intCmp],rfl⟩
  cases hu
 ·rename_i p q
  split at hu
  ·injection hu with hu
   subst hu
   exact⟨by simp [execOp,hop,hx,hy,eqGuard,binOp,Op.stringOp,beq_bytes (p:=p) (q:=q) (B:=decide (p=q)) (by simp)],rfl⟩
  ·injection hu with hu
   subst hu
   exact⟨by simp [execOp,hop,hx,hy,eqGuard,binOp,Op.stringOp,beq_bytes (p:=p) (q:=q) (B:=decide (p=q)) (by simp)],rfl⟩
  cases hu
 ·rename_i p q
  have h1:=run_equalIn_bool (P:=P) W 9999 t p q (hb p q rfl rfl)
  split at hu
  ·injection hu with hu
   subst hu
   exact⟨by simp [execOp,hop,hx,hy,eqGuard,binOp,Op.equal,Op.maxDepth,h1],rfl⟩
  ·injection hu with hu
   subst hu
   exact⟨by simp [execOp,hop,hx,hy,eqGuard,binOp,Op.equal,Op.maxDepth,h1],rfl⟩
  cases hu
 cases hu
theorem isIfc_u{t:TypeId}(h:isIfc P t=true):∃ m,P.underlying t=some (.interface m):=by
 unfold isIfc at h
 split at h
 ·exact⟨_,‹_›⟩
 cases h
theorem nilCmp_ok{neq:Bool}{t t':TypeId}{x y:Operand}{c d:D}{re:Re}(hop:o.op=.binOp (if neq then .neq else .eql) t x y t')(hx:Den (tyOf P) I α c (a.eval x))(hy:Den (tyOf P) I α d (a.eval y))(he:Ev E Γ Re (nilCmp P t (isCst y) neq c d) re):Val P o a α I W re:=by
 have hsl:∀ {e:TypeId} {A:Option Addr} {n k:Nat},P.underlying t=some (.slice e)→a.eval x=.slice A n k→a.eval y=.slice none 0 0→(execOp a.eval o).run P W=.ok (.value (.bool (neq ^^ A.isNone))) W:=by
  intro e A n k ht hx hy
  have h0:∀ d:Nat,(Op.equalIn (d+1) t (.slice A n k) (.slice none 0 0)).run P W=.ok A.isNone W:=fun d=>by
   cases A<;>simp [Op.equalIn,run_underlying ht]
  have h1:=h0 9999
  cases neq<;>simp [execOp,hop,hx,hy,eqGuard,binOp,Op.equal,Op.maxDepth,h1]
 unfold nilCmp at he
 split at he
 ·rcases ev_ite he with ⟨hs,he⟩|⟨_,he⟩
  ·obtain⟨e,hs⟩:=Option.isSome_iff_exists.1 hs
   have ht:=slElem_u hs
   generalize hvy:a.eval y=vy at hy
   cases hy
   split at he
   ·generalize hvx:a.eval x=vx at hx
    cases hx with
    | sl hc hk hm =>
     obtain⟨rfl,h1,h2⟩:=hk
     have:=hsl ht hvx hvy
     exact .ok1 he this (by cases neq<;>exact .k rfl)
   ·generalize hvx:a.eval x=vx at hx
    cases hx
    have:=hsl ht hvx hvy
    exact .ok1 he this (by cases neq<;>exact .k rfl)
   ·generalize hvx:a.eval x=vx at hx
    cases hx with
    | sl hc hk hm =>
     have hm:=hm (by simp)
     cases hm
     have:=hsl ht hvx hvy
     exact .ok1 he this (by cases neq<;>exact .k rfl)
   ·generalize hvx:a.eval x=vx at hx
    cases he with
    | need hc he =>
     have hc:=of_decide_eq_true hc
     cases hx with
     | sl hcc hk hm =>
      have hm:=hm (fun h=>by rw [h]at hc;exact absurd hc (by decide))
      cases hm
      have:=hsl ht hvx hvy
      exact .ok1 he this (by cases neq<;>exact .k rfl)
   ·generalize hvx:a.eval x=vx at hx
    cases hx
    have:=hsl ht hvx hvy
    exact .ok1 he this (by cases neq<;>exact .k rfl)
   ·generalize hvx:a.eval x=vx at hx
    cases hx
    have:=hsl ht hvx hvy
    exact .ok1 he this (by cases neq<;>exact .k rfl)
   cases he
  cases he
 ·rcases ev_ite he with ⟨⟨hs,hcst⟩,he2⟩|⟨_,he2⟩
  ·clear he
   have he:=he2
   obtain⟨m,ht⟩:=isIfc_u hs
   obtain⟨cv,rfl⟩:∃ v,y=.const v:=by cases y<;>first|exact⟨_,rfl⟩|cases hcst
   generalize hvy:a.eval (.const cv)=vy at hy
   cases hy
   have h0:∀ (n:Nat) v,(v=.nilIface∨∃ q u,v=.iface q u)→(Op.equalIn (n+1) t v .nilIface).run P W=.ok (match v with|.nilIface=>true|_=>false) W:=by
    rintro n v (rfl|⟨q,u,rfl⟩)<;>simp [Op.equalIn,run_underlying ht]
   cases c with
   | ifc q dd =>
    generalize hvx:a.eval x=vx at hx
    cases hx with
    | ifc hd =>
     rename_i u
     have h1:=h0 9999 (.iface q u) (.inr ⟨_,_,rfl⟩)
     refine .ok1 (v:=.bool neq) he ?_ (.k rfl)
     cases neq<;>simp [execOp,hop,hvx,hvy,eqGuard,binOp,Op.equal,Op.maxDepth,h1]
   | k v =>
    cases v with
    | nilIface =>
     generalize hvx:a.eval x=vx at hx
     cases hx
     have h1:=h0 9999 .nilIface (.inl rfl)
     refine .ok1 (v:=.bool (!neq)) he ?_ (.k rfl)
     cases neq<;>simp [execOp,hop,hvx,hvy,eqGuard,binOp,Op.equal,Op.maxDepth,h1]
    | _=>cases he
   | _=>cases he
  cases he2
 cases he
end
end Z
end Go.Proofs.YtmgcclhbbhbmcaaGreat
namespace Go.Proofs.YtmgcclhbbhbmcaaGreat
open Go Go.RowKit
namespace Z
section
variable {P:Program}{E:LId→LSt→M Rd1}{Γ:Cn}{w0:World}{ms:Ms}{h:Heap}{α α':Al}{I I':Gh}{W W':World}{o:Oper}{a:Act}
theorem eqC_ok{d e:D}{x y:Value}{r:Bool}(h:eqC d e=some r)(hd:Den (tyOf P) I α d x)(he:Den (tyOf P) I α e y):r=true↔x=y:=by
 unfold eqC at h
 cases h1:sca d with
 | none=>rw [h1]at h;simp at h
 | some p =>
  cases h2:sca e with
  | none=>rw [h1,h2]at h;simp at h
  | some q =>
   obtain⟨b,u⟩:=p
   obtain⟨c,w⟩:=q
   obtain⟨rfl,_⟩:=sca_ok h1 hd
   obtain⟨rfl,_⟩:=sca_ok h2 he
   rw [h1,h2]at h
   cases x<;>cases y<;>simp at h<;>first
    | (obtain⟨rfl,rfl⟩:=h;simp)
    | (subst h;simp)
theorem eqL_ok:∀ {l m:List D}{xs ys:List Value}{r:Bool},eqL l m=some r→l.length=xs.length→m.length=ys.length→(∀ (j:Nat) d x,l[j]?=some d→xs[j]?=some x→Den (tyOf P) I α d x)→(∀ (j:Nat) d x,m[j]?=some d→ys[j]?=some x→Den (tyOf P) I α d x)→(r=true↔xs=ys)
 | [],[],[],[],r,h,_,_,_,_=>by
  obtain rfl:true=r:=by simpa [eqL]using h
  simp
 | d::l,e::m,x::xs,y::ys,r,h,h1,h2,h3,h4=>by
  unfold eqL at h
  split at h
  ·rename_i p q hp hq
   injection h with h;subst h
   have a1:=eqC_ok hp (h3 0 d x rfl rfl) (h4 0 e y rfl rfl)
   have a2:=eqL_ok hq (by simpa using h1) (by simpa using h2) (fun j d x a b=>h3 (j+1) d x (by simpa using a) (by simpa using b)) fun j d x a b=>h4 (j+1) d x (by simpa using a) (by simpa using b)
   rw [Bool.and_eq_true,a1,a2,List.cons.injEq]
  cases h
 | [],_::_,_,_,_,h,_,_,_,_=>by simp [eqL]at h
 | _::_,[],_,_,_,h,_,_,_,_=>by simp [eqL]at h
 | _::_,_::_,[],_,_,_,h,_,_,_=>by simp at h
 | _::_,_::_,_::_,[],_,_,_,h,_,_=>by simp at h
 | [],[],_::_,_,_,_,h,_,_,_=>by simp at h
 | [],[],[],_::_,_,_,_,h,_,_=>by simp at h
theorem ekB_ok{c:EK}{d:D}{x:Value}(h:ekB c d=true)(hd:Den (tyOf P) I α d x):c.fit x=true:=by
 unfold ekB at h
 split at h
 all_goals first
  | cases h;done
  | (cases hd;first|rfl|exact h)
theorem ekL_ok:∀ {cs:List EK}{l:List D}{xs:List Value},ekL cs l=true→l.length=xs.length→(∀ (j:Nat) d x,l[j]?=some d→xs[j]?=some x→Den (tyOf P) I α d x)→fits cs xs=true
 | [],[],[],_,_,_=>rfl
 | c::cs,d::l,x::xs,h,h1,h2=>by
  simp only [ekL,Bool.and_eq_true]at h
  simp only [fits,Bool.and_eq_true]
  exact⟨ekB_ok h.1 (h2 0 d x rfl rfl),ekL_ok h.2 (by simpa using h1) fun j d x a b=>h2 (j+1) d x (by simpa using a) (by simpa using b)⟩
 | [],_::_,_,h,_,_=>by simp [ekL]at h
 | _::_,[],_,h,_,_=>by simp [ekL]at h
 | [],[],_::_,_,h,_=>by simp at h
 | _::_,_::_,[],_,h,_=>by simp at h
theorem eqP_ok{neq:Bool}{t t':TypeId}{x y:Operand}{l m:List D}{re:Re}(hop:o.op=.binOp (if neq then .neq else .eql) t x y t')(hx:Den (tyOf P) I α (.agg l) (a.eval x))(hy:Den (tyOf P) I α (.agg m) (a.eval y))(he:Ev E Γ Re (eqP P neq t l m) re):Val P o a α I W re:=by
 unfold eqP at he
 rcases ev_ite he with ⟨⟨hr,hg⟩,he⟩|⟨_,he⟩
 ·split at he
  ·rename_i ks r hk hq
   rcases ev_ite he with ⟨⟨f1,f2⟩,he⟩|⟨_,he⟩
   ·generalize hvx:a.eval x=vx at hx
    generalize hvy:a.eval y=vy at hy
    cases hx with
    | agg hl hd =>
     rename_i xs
     cases hy with
     | agg hl' hd' =>
      rename_i ys
      have g1:∀ (j:Nat) d x,l[j]?=some d→xs.toList[j]?=some x→Den (tyOf P) I α d x:=fun j d x h1 h2=>hd j d x h1 (by simpa using h2)
      have g2:∀ (j:Nat) d x,m[j]?=some d→ys.toList[j]?=some x→Den (tyOf P) I α d x:=fun j d x h1 h2=>hd' j d x h1 (by simpa using h2)
      have hiff:=eqL_ok hq (by simpa using hl) (by simpa using hl') g1 g2
      obtain⟨b,hrun,hb⟩:=eq_kinds (P:=P) 9980 20 t ks hk W (.agg xs) (.agg ys) xs.toList ys.toList (by simp [shaped,hr]) (by simp [shaped,hr]) (ekL_ok f1 (by simpa using hl) g1) (ekL_ok f2 (by simpa using hl') g2)
      have hbr:b=r:=by rw [Bool.eq_iff_iff,hb,hiff]
      subst hbr
      refine .ok1 (v:=.bool (bif neq then !b else b)) he ?_ (.v rfl)
      unfold execOp
      cases neq<;>simp [hop,hvx,hvy,Sem.run_bind,run_eqGuard_agg,hg,run_eql_struct,run_neq_struct,hrun]
   cases he
  cases he
 cases he
theorem binP_ok{op:BinOp}{t t':TypeId}{x y:Operand}{d e:D}{re:Re}(hop:o.op=.binOp op t x y t')(hx:Den (tyOf P) I α d (a.eval x))(hy:Den (tyOf P) I α e (a.eval y))(he:Ev E Γ Re (binP P op t (isCst y) d e) re):Val P o a α I W re:=by
 unfold binP at he
 split at he
 ·exact nilCmp_ok (neq:=false) (by simpa using hop) hx hy he
 ·exact nilCmp_ok (neq:=true) (by simpa using hop) hx hy he
 split at he
 ·split at he
  ·exact eqP_ok (neq:=false) (by simpa using hop) hx hy he
  ·exact eqP_ok (neq:=true) (by simpa using hop) hx hy he
  cases he
 split at he
 ·rename_i p u q v h1 h2
  obtain⟨e1,o1⟩:=sca_ok h1 hx
  obtain⟨e2,o2⟩:=sca_ok h2 hy
  rcases ev_ite he with ⟨_,he⟩|⟨hb,he⟩
  ·cases he
  split at he
  ·rename_i r hr
   obtain⟨hc,he⟩:=ev_needB he
   obtain⟨hrun,h1⟩:=run_binR (P:=P) (W:=W) hop e1 e2 hr hc (by
    rintro p q rfl rfl
    simp only [boolOk]at hb
    split at hb
    ·assumption
    exact absurd rfl hb)
   exact .ok1 he hrun (mkv_den h1)
  cases he
 cases he
theorem unP_ok{op:UnOp}{t:TypeId}{x:Operand}{d:D}{re:Re}(hop:o.op=.unOp op t x)(hx:Den (tyOf P) I α d (a.eval x))(he:Ev E Γ Re (unP op d) re):Val P o a α I W re:=by
 unfold unP at he
 split at he
 all_goals first
  | cases he;done
  | (
   generalize hvx:a.eval x=vx at hx
   cases hx
   refine .ok1 he (v:=_) (by simp [execOp,hop,hvx,Op.unary,Op.intArith,Op.intBits];rfl) (by first|exact .k rfl|exact .v rfl))
theorem bstr_ok(hi:HInv P (tyOf P) w0 ms h α I W){s t e e':TypeId}{kn:Bool}{l:List D}{tk:Tok}{x:Operand}{re:Re}(hop:o.op=.convert s t x)(hs:P.underlying s=some (.slice e))(hd:P.underlying t=some .string)(hx:Den (tyOf P) I α (.sl kn e' l tk) (a.eval x))(he:Ev E Γ Re (bstr P e e' l) re):Val P o a α I W re:=by
 unfold bstr at he
 split at he
 ·rename_i hu ht
  rcases ev_ite he with ⟨hee,he2⟩|⟨_,he2⟩
  ·subst hee
   generalize hvx:a.eval x=vx at hx
   cases hx with
   | @sl _ _ _ _ _ A c hc hk hm =>
    have key:(convert s t (.slice A l.length c)).run P W=.ok (.string (strOfNums (l.map D.int))) W:=by
     cases A with
     | none =>
      have hl:l=[]:=by
       cases l with
       | nil=>rfl
       | cons d l=>exact absurd (hm (fun h=>nomatch h)) (fun h=>nomatch h)
      subst hl
      exact run_convert_bytes_nil W s e' hs hu _ _ t hd
     | some ad =>
      by_cases hl:l=[]
      ·subst hl
       have hl0:(loadCells ad 0).run P W=.ok #[] W:=run_loadCells_list (P:=P) W ad [] (fun j v hj=>by simp at hj)
       rw [List.length_nil,run_convert_bytes_string W s t e' _ _ c hs hu hd,run_bytesToString W ad 0 c [] hl0]
       rfl
      have hm:=hm hl
      cases hm with
      | mem g ht' he' hI hd' =>
       rw [ht]at ht'
       obtain rfl:=Option.some.inj ht'
       refine run_convert_bytes_arg W s e' hs hu _ _ _ c (l.map D.int) (List.length_map ..) (fun i hlt=>?_) t hd
       have hel:=he' (l[i]'hlt) (List.getElem_mem hlt)
       have hsz:=hel.sz
       have hg:=hi.gh _ _ _ (hI i (by show i<l.length*1;omega))
       have hcl:(l[i]'hlt).cells=[l[i]'hlt]:=by
        have:=hsz.1
        revert this
        cases l[i]'hlt<;>intro this<;>first|rfl|exact absurd rfl (this _)
       have hck:=hel.ck 0 _ _ rfl (by rw [hcl];rfl)
       have hden:=hd' i 0 _ _ (List.getElem?_eq_getElem hlt) (by rw [hcl];rfl)
       have e1:(l.map D.int).getD i 0=(l[i]'hlt).int:=by simp [List.getD_eq_getElem?_getD,List.getElem?_map,List.getElem?_eq_getElem hlt]
       rw [e1,hg]
       have hden:Den (tyOf P) I non (l[i]'hlt) (g (i*1+0)):=hden
       rw [Nat.mul_one,Nat.add_zero]at hden
       obtain⟨n,hn⟩:=hck
       rcases hn with hn|hn<;>rw [hn]at hden ⊢<;>generalize g i=y at hden<;>cases hden<;>rfl
    exact .ok1 he2 (v:=.string (strOfNums (l.map D.int))) (by simp [execOp,hop,hvx,key]) (.v rfl)
  cases he2
 cases he
theorem convP_ok(hi:HInv P (tyOf P) w0 ms h α I W){s t:TypeId}{x:Operand}{d:D}{re:Re}(hop:o.op=.convert s t x)(hx:Den (tyOf P) I α d (a.eval x))(he:Ev E Γ Re (convP P s t d) re):Val P o a α I W re:=by
 unfold convP at he
 split at he
 case h_3=>rename_i hs hd;exact bstr_ok hi hop hs hd hx he
 all_goals first
  | cases he;done
  | (
   rename_i hs hd
   generalize hvx:a.eval x=vx at hx
   cases hx
   refine .ok1 he (v:=_) (by simp [execOp,hop,hvx,convert,run_underlying hs,run_underlying hd,Conv.intToInt];rfl) (by first|exact .k rfl|exact .v rfl))
theorem notIfc_u{t:TypeId}(h:notIfc P t=true):∃ d,P.underlying t=some d∧∀ m,d≠.interface m:=by
 unfold notIfc at h
 split at h
 ·cases h
 ·rename_i d hd hu;exact⟨d,hu,fun m e=>hd m (by rw [← e])⟩
 cases h
theorem mkI_ok{t:TypeId}{x:Operand}{d:D}{re:Re}{n:Nat}(hop:o.op=.makeInterface t x)(hx:Den (tyOf P) I α d (a.eval x))(he:Ev E Γ Re (if notIfc P t then ok1 (.ifc t d)else .bad n) re):Val P o a α I W re:=by
 rcases ev_ite he with ⟨hn,he⟩|⟨_,he⟩
 ·obtain⟨u,hu,hm⟩:=notIfc_u hn
  refine .ok1 he (v:=.iface t (a.eval x)) ?_ (.ifc hx)
  cases hud:u<;>subst hud<;>first
   | exact absurd rfl (hm _)
   | simp [execOp,hop,Instr.makeInterface,run_underlying hu]
 cases he
theorem asrt_ok{t xt:TypeId}{x:Operand}{d:D}{ok:Bool}{re:Re}(hop:o.op=.typeAssert x xt t ok)(hx:Den (tyOf P) I α d (a.eval x))(he:Ev E Γ Re (asrtP P t ok d) re):Val P o a α I W re:=by
 unfold asrtP at he
 rcases ev_ite he with ⟨hn,he⟩|⟨_,he⟩
 ·obtain⟨u,hu,hm⟩:=notIfc_u hn
  have two:∀ {p q:D} {x y:Value},Den (tyOf P) I α p x→Den (tyOf P) I α q y→Den (tyOf P) I α (.tup [p,q]) (.tuple #[x,y]):=fun hp hq=>.tup rfl fun j d x h1 h2=>by
   match j with
   | 0=>obtain rfl:=Option.some.inj h1;obtain rfl:=Option.some.inj h2;exact hp
   | 1=>obtain rfl:=Option.some.inj h1;obtain rfl:=Option.some.inj h2;exact hq
   | j+2=>simp at h1
  have hno:ok=true→(∀ t' v,a.eval x=.iface t' v→¬ t'=t)→(a.eval x=.nilIface∨∃ t' v,a.eval x=.iface t' v)→∀ {z:Value},zeroOf P t=some z→(execOp a.eval o).run P W=.ok (.value (.tuple #[z,.bool false])) W:=by
   intro hok hne hk z hz
   have hzr:=run_zeroOf hz W
   rcases hk with hk|⟨t',v,hk⟩
   ·cases hud:u<;>subst hud<;>first
     | exact absurd rfl (hm _)
     | simp [execOp,hop,hk,hok,Instr.typeAssert,run_underlying hu,hzr]
   ·have:=hne t' v hk
    cases hud:u<;>subst hud<;>first
     | exact absurd rfl (hm _)
     | simp [execOp,hop,hk,hok,Instr.typeAssert,run_underlying hu,this,hzr]
  split at he
  ·rename_i t' dd
   generalize hvx:a.eval x=vx at hx
   cases hx with
   | ifc hd =>
    rename_i v
    rcases ev_ite he with ⟨heq,he2⟩|⟨hne,he2⟩
    ·subst heq
     refine .ok1 he2 (v:=if ok then .tuple #[v,.bool true]else v) ?_ ?_
     ·cases hud:u<;>subst hud<;>first
       | exact absurd rfl (hm _)
       | (cases ok<;>simp [execOp,hop,hvx,Instr.typeAssert,run_underlying hu])
     cases ok
     ·exact hd
     exact two hd (.k rfl)
    clear he
    split at he2
    ·rename_i z hz
     obtain⟨zv,h1,h2⟩:=zeroD_ok (I:=I) (α:=α) hz
     refine .ok1 he2 (hno rfl (fun t2 v2 e=>?_) (.inr ⟨_,_,hvx⟩) h1) (two h2 (.k rfl))
     rw [hvx]at e
     cases e;exact hne
    cases he2
  ·generalize hvx:a.eval x=vx at hx
   cases hx
   cases ok with
   | false=>cases hz:zeroD P t<;>rw [hz]at he<;>cases he
   | true =>
   cases hz:zeroD P t with
   | none=>rw [hz]at he;cases he
   | some z =>
    rw [hz]at he
    obtain⟨zv,h1,h2⟩:=zeroD_ok (I:=I) (α:=α) hz
    exact .ok1 he (hno rfl (fun t2 v2 e=>by rw [hvx]at e;cases e) (.inl hvx) h1) (two h2 (.k rfl))
  cases he
 cases he
theorem shift_ok{q:Nat}{d d':D}{v:Value}(h:shiftP q d=some d')(hd:Den (tyOf P) I α d v):∃ b o',v=.pointer (some ⟨b,o',none⟩)∧Den (tyOf P) I α d' (.pointer (some ⟨b,o'+q,none⟩)):=by
 unfold shiftP at h
 split at h
 ·injection h with h;subst h
  cases hd with
  | p hr=>exact⟨_,_,rfl,by rw [Nat.add_assoc];exact .p hr⟩
 ·injection h with h;subst h
  cases hd with
  | px hr=>exact⟨_,_,rfl,by rw [Nat.add_assoc];exact .px hr⟩
 ·injection h with h;subst h
  cases hd with
  | ep g h1 h2=>exact⟨_,_,rfl,by rw [Nat.add_assoc];exact .ep g h1 h2⟩
 cases h
theorem run_fldA{x:Operand}{t:TypeId}{f d b q:Nat}(ho:o.op=.fieldAddr t x f)(hx:a.eval x=.pointer (some ⟨b,q,none⟩))(hd:fieldOff P t f=some d):(execOp a.eval o).run P W=.ok (.value (.pointer (some ⟨b,q+d,none⟩))) W:=by
 unfold fieldOff at hd
 cases hu:P.underlying t with
 | none=>simp [hu]at hd
 | some ds =>
  rw [hu]at hd
  cases ds<;>simp at hd
  rename_i fs
  cases hf:fs[f]? with
  | none=>simp [hf]at hd
  | some fd =>
   simp only [hf]at hd
   cases hz:szOf P fd.type with
   | none=>simp [hz]at hd
   | some n =>
    rw [hz]at hd
    cases n with
    | zero=>simp at hd
    | succ n =>
     obtain rfl:fd.offset=d:=by simpa using hd
     unfold execOp
     simp only [ho,hx,Instr.fieldAt,Instr.sureAddr,Sem.run_bind,run_underlying hu,Result.andThen_ok,hf,Sem.run_pure,fieldPlace,run_szOf hz]
     simp only [Nat.add_one_ne_zero,if_false,Sem.run_pure,Result.andThen_ok,add_zero_addr]
theorem fldA_ok{x:Operand}{t:TypeId}{f d n:Nat}{p:D}{re:Re}(ho:o.op=.fieldAddr t x f)(hx:Den (tyOf P) I α p (a.eval x))(hd:fieldOff P t f=some d)(he:Ev E Γ Re (ok? (shiftP d p) n) re):Val P o a α I W re:=by
 obtain⟨y,hy,rfl⟩:=ev_ok? he
 obtain⟨b,o',h1,h2⟩:=shift_ok hy hx
 exact⟨_,_,rfl,run_fldA ho h1 hd,h2⟩
theorem fld_ok{x:Operand}{t e:TypeId}{f off n:Nat}{cs:List D}{re:Re}(ho:o.op=.field t x f)(hx:Den (tyOf P) I α (.agg cs) (a.eval x))(hf:fldOf P t f=some (off,e))(he:Ev E Γ Re (ok? (part P e cs off) n) re):Val P o a α I W re:=by
 obtain⟨y,hy,rfl⟩:=ev_ok? he
 obtain⟨fs,d,hu,h1,rfl,rfl⟩:=fldOf_eq hf
 generalize hvx:a.eval x=vx at hx
 obtain⟨c,rfl⟩:∃ c,vx=.agg c:=by cases hx;exact⟨_,rfl⟩
 obtain⟨v,hl,hv⟩:=agg_part (W:=W) hy hx
 refine⟨_,v,rfl,?_,hv⟩
 simp [execOp,ho,hvx,Instr.field,run_underlying hu,h1,asAgg,hl]
theorem ext_ok{x:Operand}{i n:Nat}{l:List D}{re:Re}(ho:o.op=.extract x i)(hx:Den (tyOf P) I α (.tup l) (a.eval x))(he:Ev E Γ Re (ok? (l[i]?) n) re):Val P o a α I W re:=by
 obtain⟨y,hy,rfl⟩:=ev_ok? he
 generalize hvx:a.eval x=vx at hx
 cases hx with
 | tup hl hd =>
  rename_i c
  have hi:i<c.size:=by rw [← hl];exact(List.getElem?_eq_some_iff.1 hy).1
  refine⟨_,c[i],rfl,?_,hd i y _ hy (Array.getElem?_eq_getElem hi)⟩
  simp [execOp,ho,hvx,Instr.extract,hi]
theorem mm_ok{mx:Bool}{x y:Operand}{d e:D}{re:Re}{ats:Array TypeId}(ho:o.op=.call { callee:=.builtin (if mx then .max else .min),args:=#[x,y],argTypes:=ats }) (hx:Den (tyOf P) I α d (a.eval x)) (hy:Den (tyOf P) I α e (a.eval y)) (he:Ev E Γ Re (mmP mx d e) re):Val P o a α I W re:=by
 unfold mmP at he
 split at he
 ·rename_i p k i q k' j h1 h2
  obtain⟨e1,_⟩:=sca_ok h1 hx
  obtain⟨e2,_⟩:=sca_ok h2 hy
  rcases ev_ite he with ⟨hkk,he2⟩|⟨_,he2⟩
  ·subst hkk
   refine .ok1 he2 (v:=.int k (bif mx then(if i<j then j else i)else(if j<i then j else i))) ?_ (mkv_den rfl)
   cases mx<;>simp [execOp,ho,resolve,invoke,builtin,e1,e2,Builtin.min_,Builtin.min2,Builtin.max_,Builtin.max2]
  cases he2
 cases he
theorem mm3_ok{x y z:Operand}{d e g:D}{re:Re}{ats:Array TypeId}(ho:o.op=.call { callee:=.builtin .max,args:=#[x,y,z],argTypes:=ats }) (hx:Den (tyOf P) I α d (a.eval x)) (hy:Den (tyOf P) I α e (a.eval y)) (hz:Den (tyOf P) I α g (a.eval z)) (he:Ev E Γ Re (mm3 d e g) re):Val P o a α I W re:=by
 unfold mm3 at he
 split at he
 ·rename_i p k i q k' j r k'' m h1 h2 h3
  obtain⟨e1,_⟩:=sca_ok h1 hx
  obtain⟨e2,_⟩:=sca_ok h2 hy
  obtain⟨e3,_⟩:=sca_ok h3 hz
  rcases ev_ite he with ⟨⟨hkk,hkk2⟩,he2⟩|⟨_,he2⟩
  ·subst hkk;subst hkk2
   refine .ok1 he2 (v:=.int k (mx2 (mx2 i j) m)) ?_ (.v rfl)
   simp [execOp,ho,resolve,invoke,builtin,e1,e2,e3,Builtin.max_,Builtin.max2,mx2]
   rfl
  cases he2
 cases he
theorem len_ok{x:Operand}{d:D}{t:TypeId}{re:Re}(ho:o.op=.call { callee:=.builtin .len,args:=#[x],argTypes:=#[t] }) (hx:Den (tyOf P) I α d (a.eval x)) (he:Ev E Γ Re (lenP P t d) re):Val P o a α I W re:=by
 unfold lenP at he
 split at he
 ·rename_i hp
  split at he
  ·generalize hvx:a.eval x=vx at hx
   cases hx
   exact .ok1 he (v:=.int .i64 _) (by simp [execOp,ho,resolve,invoke,builtin,hvx,Builtin.len_,run_underlying hp,goInt]) (.k rfl)
  ·generalize hvx:a.eval x=vx at hx
   cases hx
   exact .ok1 he (v:=.int .i64 _) (by simp [execOp,ho,resolve,invoke,builtin,hvx,Builtin.len_,run_underlying hp,goInt]) (.v rfl)
  cases he
 ·rename_i e hp
  split at he
  ·rename_i kn l tk hl
   have hx:=asL_ok hl hx
   generalize hvx:a.eval x=vx at hx
   cases hx
   exact .ok1 he (v:=.int .i64 _) (by simp [execOp,ho,resolve,invoke,builtin,hvx,Builtin.len_,run_underlying hp,goInt]) (mkv_den rfl)
  split at he
  ·generalize hvx:a.eval x=vx at hx
   cases hx
   exact .ok1 he (v:=.int .i64 _) (by simp [execOp,ho,resolve,invoke,builtin,hvx,Builtin.len_,run_underlying hp,goInt]) (mkv_den rfl)
  cases he
 cases he
end
end Z
end Go.Proofs.YtmgcclhbbhbmcaaGreat
namespace Go.Proofs.YtmgcclhbbhbmcaaGreat
open Go Go.RowKit
namespace Z
section
variable {P:Program}{E:LId→LSt→M Rd1}{Γ:Cn}{w0:World}{ms:Ms}{h:Heap}{α α' β:Al}{I I':Gh}{W W':World}{o:Oper}{a:Act}
theorem chain_ok{i:Int}{k:Nat→M Re}{re:Re}:∀ {n j:Nat},Ev E Γ Re (chain i k n j) re→∃ m,j≤m∧m<j+n∧i=(m:Int)∧Ev E Γ Re (k m) re
 | 0,j,h=>by
  cases h with
  | need h hm=>cases h
 | n+1,j,h=>by
  cases h with
  | brt h hx=>exact⟨j,Nat.le_refl _,by omega,of_decide_eq_true h,hx⟩
  | brf h hx=>obtain⟨m,h1,h2,h3,h4⟩:=chain_ok hx;exact⟨m,by omega,by omega,h3,h4⟩
theorem mem_den{e:TypeId}{ty:Ty}{l:List D}{b o':Nat}(hty:tyOf P e=some ty)(hel:∀ d∈l,ElOk ty d)
 (hc:∀ (i j:Nat) d e',l[i]?=some d→d.cells[j]?=some e'→∃ x,I b (o'+(i*ty.n+j))=some x∧Den (tyOf P) I non e' x):Den (tyOf P) I α (.mem e l) (.pointer (some ⟨b,o',none⟩)):=by
 refine .mem (fun q=>(I b (o'+q)).getD undef) hty hel (fun q hq=>?_) fun i j d e' h1 h2=>?_
 ·have hn:0<ty.n:=by
   rcases Nat.eq_zero_or_pos ty.n with h|h
   ·rw [h]at hq;simp at hq
   exact h
  have hi:q / ty.n<l.length:=(Nat.div_lt_iff_lt_mul hn).2 hq
  have hj:q % ty.n<l[q / ty.n].cells.length:=by rw [(hel _ (List.getElem_mem hi)).1.len];exact Nat.mod_lt _ hn
  obtain⟨x,h3,_⟩:=hc (q / ty.n) (q % ty.n) _ _ (List.getElem?_eq_getElem hi) (List.getElem?_eq_getElem hj)
  rw [show q / ty.n*ty.n+q % ty.n=q by rw [Nat.mul_comm];exact Nat.div_add_mod q ty.n]at h3
  rw [h3];rfl
 obtain⟨x,h3,h4⟩:=hc i j d e' h1 h2
 show Den _ _ _ _ ((I b (o'+(i*ty.n+j))).getD undef)
 rw [h3]
 exact h4
theorem mem_at{e:TypeId}{ty:Ty}{l:List D}{A:Option Addr}{i:Nat}{d0 d:D}(hm:Den (tyOf P) I α (.mem e l) (.pointer A))(hty:tyOf P e=some ty)(hd0:l[i]?=some d0)(hd:d=d0∨d=eta ty d0) :
 ∃ b o',A=some ⟨b,o',none⟩∧Den (tyOf P) I α' (.ep d 0) (.pointer (some ⟨b,o'+i*ty.n,none⟩)):=by
 cases hm with
 | mem g ht he hI hdd =>
  rename_i ty' b o'
  rw [hty]at ht
  obtain rfl:=Option.some.inj ht
  have hel:=he d0 (List.mem_of_getElem? hd0)
  have hil:i<l.length:=(List.getElem?_eq_some_iff.1 hd0).1
  refine⟨b,o',rfl,.ep (fun j=>g (i*ty.n+j)) (fun j hj=>?_) fun j e' he'=>?_⟩
  ·have hj':j<ty.n:=by
    rcases hd with rfl|rfl
    ·rw [hel.1.len]at hj;exact hj
    rw [eta_n hel]at hj;exact hj
   have:(i+1)*ty.n≤l.length*ty.n:=Nat.mul_le_mul_right _ hil
   rw [Nat.add_mul]at this
   have:=hI (i*ty.n+j) (by omega)
   exact(congrArg (I b) (Nat.add_assoc o' (i*ty.n) j)).trans this
  rcases hd with rfl|rfl
  ·exact hdd i j _ _ hd0 he'
  obtain⟨e0,h1,h2⟩:=eta_cells (P:=P) hel he'
  exact(h2 (hdd i j _ _ hd0 h1)).1
theorem run_idxA_arr{x ix:Operand}{t e:TypeId}{len n kk off:Nat}{k:IntKind}{i:Int}(ho:o.op=.indexAddr t x ix)(hx:a.eval x=.pointer (some ⟨kk,off,none⟩))(hi:a.eval ix=.int k i)(hu:arrOf P t=some (len,e))(h0:0≤i∧i<len)
 (hs:szOf P e=some n):(execOp a.eval o).run P W=.ok (.value (.pointer (some ⟨kk,off+i.toNat*n,none⟩))) W:=by
 unfold execOp
 simp only [ho,hx,hi,Instr.indexAt,Instr.sureAddr,asIntOf,Sem.run_bind,Sem.run_pure,Result.andThen_ok,run_underlying (arrOf_eq hu),if_pos h0,run_szOf hs,add_zero_addr]
theorem run_idxA_sl{x ix:Operand}{t e:TypeId}{n len cap b q:Nat}{k:IntKind}{i:Int}(ho:o.op=.indexAddr t x ix)(hx:a.eval x=.slice (some ⟨b,q,none⟩) len cap)(hi:a.eval ix=.int k i)(hu:P.underlying t=some (.slice e))(h0:0≤i∧i<len)
 (hs:szOf P e=some n):(execOp a.eval o).run P W=.ok (.value (.pointer (some ⟨b,q+i.toNat*n,none⟩))) W:=by
 unfold execOp
 simp only [ho,hx,hi,Instr.indexAt,asIntOf,Sem.run_bind,Sem.run_pure,Result.andThen_ok,run_underlying hu,if_pos h0,run_szOf hs,add_zero_addr]
theorem idxA_ok(hi:HInv P (tyOf P) w0 ms h α I W){x ix:Operand}{t:TypeId}{d j:D}{re:Re}{bs:List Blk}(ho:o.op=.indexAddr t x ix)(hx:Den (tyOf P) I α d (a.eval x))(hj:Den (tyOf P) I α j (a.eval ix))(hbs:∀ n,(∃ i q,d=.p n i q)∨(∃ kn i q,d=.ar kn n i q)→bs=[at_ h n])
 (he:Ev E Γ Re (idxA P t d j bs) re):Val P o a α I W re:=by
 unfold idxA at he
 split at he
 ·cases he
 rename_i lit i hji
 obtain⟨k,hk⟩:=asI_ok hji hj
 split at he
 ·rename_i e hse
  have hu:=slElem_u hse
  split at he
  ·cases he
  rename_i ty hty
  obtain⟨hsz,_⟩:=ty_of hty
  split at he
  ·rename_i kn e' l tk
   split at he
   ·rename_i hee
    subst hee
    generalize hvx:a.eval x=vx at hx
    cases hx with
    | sl hc htk hm =>
     rename_i A c
     have key:∀ d0 d',0≤i→l[i.toNat]?=some d0→(d'=d0∨d'=eta ty d0)→Ev E Γ Re (ok1 (.ep d' 0)) re→Val P o a α I W re:=by
      intro d0 d' h0 hd0 hd' he
      have hil:i.toNat<l.length:=(List.getElem?_eq_some_iff.1 hd0).1
      obtain⟨b,q,rfl,hep⟩:=mem_at (α':=α) (hm (by rintro rfl;simp at hil)) hty hd0 hd'
      exact .ok1 he (run_idxA_sl ho hvx hk hu ⟨h0,by omega⟩ hsz) hep
     unfold elIdx at he
     split at he
     ·split at he
      ·rename_i h0
       split at he
       ·rename_i d0 hd0;exact key d0 d0 h0 hd0 (.inl rfl) he
       cases he
      cases he
     cases he with
     | get h0 hd0 hk'=>exact key _ _ h0 hd0 (.inr rfl) hk'
   cases he
  ·rename_i kn n j' len
   generalize hvx:a.eval x=vx at hx
   cases hx with
   | ar hr hw hc hA =>
    rename_i c r A
    split at he
    ·rename_i kn' e' w l
     have hB:at_ h n=.arr kn' e' w l:=(List.cons.inj (hbs n (.inr ⟨_,_,_,rfl⟩))).1.symm
     obtain⟨_,_,_,ty',cc,tt,h1,h2,h3,h4⟩:=hi.arr hB hr
     split at he
     ·rename_i hee
      subst hee
      rw [hty]at h1
      obtain rfl:=Option.some.inj h1
      have key:(0≤i∧i<len)→(execOp a.eval o).run P W=.ok (.value (.pointer (some ⟨r.b,(j'+i.toNat)*r.s+0,none⟩))) W:=fun h0=>by
       have hA:=hA (by omega)
       subst hA
       have:=run_idxA_sl (P:=P) (W:=W) ho hvx hk hu h0 hsz
       rw [this,h2,Nat.add_mul];simp
      split at he
      ·split at he
       ·rename_i h0;exact .ok1 he (key h0) (.p hr)
       cases he
      cases he with
      | need h0 hm=>exact .ok1 hm (key (of_decide_eq_true h0)) (.px hr)
     cases he
    cases he
  cases he
 rename_i hnse
 split at he
 ·rename_i len e n j' q hat
  split at he
  ·rename_i sz B hsz
   have hB:at_ h n=B:=by
    have:=hbs n (.inl ⟨_,_,rfl⟩)
    exact(List.cons.inj this).1.symm
   split at he
   ·rename_i kn e' w l
    generalize hvx:a.eval x=vx at hx
    cases hx with
    | p hr =>
     rename_i r
     have key:∀ m:Nat,0≤i∧i<len→i.toNat=m→(execOp a.eval o).run P W=.ok (.value (.pointer (some ⟨r.b,j'*r.s+(q+m*sz),none⟩))) W:=fun m h0 hm=>by
      have:=run_idxA_arr (P:=P) (W:=W) ho hvx hk hat h0 hsz
      rw [this,hm,Nat.add_assoc]
     split at he
     ·rename_i hc
      obtain⟨rfl,rfl,rfl,hll⟩:=hc
      obtain⟨_,_,_,ty',cc,tt,h1,h2,h3,h4⟩:=hi.arr hB hr
      obtain⟨hs1,_⟩:=ty_of h1
      rw [hsz]at hs1
      have hrs:sz=r.s:=by rw [h2];exact Option.some.inj hs1
      have key2:0≤i∧i<len→(execOp a.eval o).run P W=.ok (.value (.pointer (some ⟨r.b,i.toNat*r.s+0,none⟩))) W:=fun h0=>by
       rw [key i.toNat h0 rfl,hrs];simp
      split at he
      ·split at he
       ·rename_i h0;exact .ok1 he (key2 h0) (.p hr)
       cases he
      cases he with
      | need h0 hm=>exact .ok1 hm (key2 (of_decide_eq_true h0)) (.px hr)
     split at he
     ·split at he
      ·rename_i h0;exact .ok1 he (key _ h0 rfl) (.p hr)
      cases he
     split at he
     ·obtain⟨m,h1,h2,h3,h4⟩:=chain_ok he
      exact .ok1 h4 (key m (by omega) (by omega)) (.p hr)
     cases he
   cases he
  cases he
 ·rename_i len e d' q hat
  generalize hvx:a.eval x=vx at hx
  cases hx with
  | ep g h1 h2 =>
   rename_i b o'
   have key:∀ (m sz:Nat),szOf P e=some sz→0≤i∧i<len→i.toNat=m→(execOp a.eval o).run P W=.ok (.value (.pointer (some ⟨b,o'+(q+m*sz),none⟩))) W:=fun m sz hsz h0 hm=>by
    have:=run_idxA_arr (P:=P) (W:=W) ho hvx hk hat h0 hsz
    rw [this,hm,Nat.add_assoc]
   split at he
   ·rename_i sz hsz
    split at he
    ·rename_i h0;exact .ok1 he (key _ _ hsz h0 rfl) (.ep g h1 h2)
    cases he
   ·rename_i sz hsz
    split at he
    ·obtain⟨m,a1,a2,a3,a4⟩:=chain_ok he
     exact .ok1 a4 (key m _ hsz (by omega) (by omega)) (.ep g h1 h2)
    cases he
   cases he
 cases he
theorem idx_ok{x ix:Operand}{t:TypeId}{d j:D}{re:Re}(ho:o.op=.index t x ix)(hx:Den (tyOf P) I α d (a.eval x))(hj:Den (tyOf P) I α j (a.eval ix))(he:Ev E Γ Re (idxP P t d j) re):Val P o a α I W re:=by
 unfold idxP at he
 split at he
 ·rename_i lit i len e cs hji hat
  obtain⟨k,hk⟩:=asI_ok hji hj
  split at he
  ·cases he
  rename_i sz hsz
  generalize hvx:a.eval x=vx at hx
  obtain⟨c,rfl⟩:∃ c,vx=.agg c:=by cases hx;exact⟨_,rfl⟩
  have key:∀ {m n:Nat},0≤i∧i<len→i.toNat=m→Ev E Γ Re (ok? (part P e cs (m*sz)) n) re→Val P o a α I W re:=by
   intro m n h0 hm he
   obtain⟨y,hy,rfl⟩:=ev_ok? he
   obtain⟨v,hl,hv⟩:=agg_part (W:=W) hy hx
   refine⟨_,v,rfl,?_,hv⟩
   unfold execOp
   simp only [ho,hvx,hk,Instr.index,asIntOf,Sem.run_bind,Sem.run_pure,Result.andThen_ok,run_underlying (arrOf_eq hat),if_pos h0,run_szOf hsz,hm,hl]
  split at he
  ·split at he
   ·rename_i h0;exact key h0 rfl he
   cases he
  split at he
  ·obtain⟨m,a1,a2,a3,a4⟩:=chain_ok he
   exact key (by omega) (by omega) a4
  cases he
 cases he
end
end Z
end Go.Proofs.YtmgcclhbbhbmcaaGreat
namespace Go.Proofs.YtmgcclhbbhbmcaaGreat
open Go Go.RowKit
namespace Z
section
variable {P:Program}{E:LId→LSt→M Rd1}{Γ:Cn}{w0:World}{ms:Ms}{h:Heap}{α α' β:Al}{I I':Gh}{W W':World}{o:Oper}{a:Act}
def OptOk(a:Act)(x:Option Operand)(p:Option (Bool×Int)):Prop:=match x,p with
 | none,none=>True
 | some x,some (_,i)=>∃ k,a.eval x=.int k i
 | _,_=>False
def OptDen(P:Program)(I:Gh)(α:Al)(a:Act)(x:Option Operand)(d:Option D):Prop:=match x,d with
 | none,none=>True
 | some x,some d=>Den (tyOf P) I α d (a.eval x)
 | _,_=>False
theorem asO_ok{x:Option Operand}{d:Option D}{p:Option (Bool×Int)}(h:asO d=some p)(hx:OptDen P I α a x d):OptOk a x p:=by
 unfold asO at h
 cases d with
 | none =>
  obtain rfl:none=p:=Option.some.inj h
  cases x with
  | none=>trivial
  | some x=>exact hx
 | some d =>
  obtain⟨q,hq,rfl⟩:=Option.map_eq_some_iff.1 h
  cases x with
  | none=>exact hx.elim
  | some x=>obtain⟨b,i⟩:=q;exact asI_ok hq hx
theorem bound_ok{y:Nat}{k:IntKind}{i:Int}{code:BoundsCode}(h:0≤i∧i≤(y:Int)):(Instr.sliceBound (.int k i) y code).run P W=.ok i.toNat W:=by
 simp [Instr.sliceBound,asIntOf,h]
theorem bnds_ok{len cap:Nat}{xl xh xm:Option Operand}{lo hi mx:Option (Bool×Int)}{c k:Bool}{A B:Nat}{isS:Bool}(h:bnds len lo hi mx=some (c,k,A,B))(hc:c=true)(hcap:len≤cap)(h1:OptOk a xl lo)(h2:OptOk a xh hi)(h3:OptOk a xm mx) :
 (Instr.sliceBounds isS len cap (xl.map a.eval) (xh.map a.eval) (xm.map a.eval)).run P W=.ok (A,B,if mx.isSome then B else cap) W∧A≤B∧B≤len∧(lo=none→A=0)∧(hi=none→B=len):=by
 subst hc
 unfold bnds at h
 unfold Instr.sliceBounds
 have key:∀ (l hh:Int),0≤l→l≤hh→hh≤(len:Int)→l.toNat≤hh.toNat∧hh.toNat≤len:=fun l hh a b c=>by omega
 cases mx with
 | none =>
  cases xm with
  | some x=>exact h3.elim
  | none =>
   simp only [Option.some.injEq,Prod.mk.injEq,decide_eq_true_eq]at h
   obtain⟨⟨g1,g2,g3⟩,-,rfl,rfl⟩:=h
   obtain⟨g4,g5⟩:=key _ _ g1 g2 g3
   cases hi with
   | none =>
    cases xh with
    | some x=>exact h2.elim
    | none =>
     simp only [Option.getD_none]at g1 g2 g3 g4 g5 ⊢
     cases lo with
     | none =>
      cases xl with
      | some x=>exact h1.elim
      | none=>simp
     | some p =>
      obtain⟨b,i⟩:=p
      cases xl with
      | none=>exact h1.elim
      | some x =>
       obtain⟨k',hk⟩:=h1
       simp only [Option.getD_some]at g1 g2 g3 g4 g5 ⊢
       refine⟨?_,g4,g5,(fun h=>nomatch h),fun _=>by omega⟩
       simp [Sem.run_bind,hk,bound_ok (P:=P) (W:=W) (k:=k') (y:=len) (i:=i) ⟨g1,g2⟩]
   | some q =>
    obtain⟨b',j⟩:=q
    cases xh with
    | none=>exact h2.elim
    | some y =>
     obtain⟨k2,hk2⟩:=h2
     have e2:(j.toNat:Int)=j:=by simp only [Option.getD_some]at g1 g2;omega
     cases lo with
     | none =>
      cases xl with
      | some x=>exact h1.elim
      | none =>
       simp only [Option.getD_some,Option.getD_none]at g1 g2 g3 g4 g5 ⊢
       refine⟨?_,g4,g5,(fun h=>rfl),fun h=>nomatch h⟩
       simp [Sem.run_bind,hk2,bound_ok (P:=P) (W:=W) (k:=k2) (y:=cap) (i:=j) ⟨g2,by omega⟩]
     | some p =>
      obtain⟨b,i⟩:=p
      cases xl with
      | none=>exact h1.elim
      | some x =>
       obtain⟨k',hk⟩:=h1
       simp only [Option.getD_some]at g1 g2 g3 g4 g5 ⊢
       refine⟨?_,g4,g5,(fun h=>nomatch h),fun h=>nomatch h⟩
       simp [Sem.run_bind,hk,hk2,bound_ok (P:=P) (W:=W) (k:=k2) (y:=cap) (i:=j) ⟨by omega,by omega⟩,bound_ok (P:=P) (W:=W) (k:=k') (y:=j.toNat) (i:=i) ⟨g1,by omega⟩]
 | some m =>
  obtain⟨bm,m⟩:=m
  cases xm with
  | none=>exact h3.elim
  | some z =>
   obtain⟨k3,hk3⟩:=h3
   cases hi with
   | none=>simp at h
   | some q =>
    obtain⟨b',j⟩:=q
    cases xh with
    | none=>exact h2.elim
    | some y =>
     obtain⟨k2,hk2⟩:=h2
     simp only [Option.some.injEq,Prod.mk.injEq,decide_eq_true_eq,Option.getD_some]at h
     obtain⟨⟨g1,g2,g3,rfl⟩,-,rfl,rfl⟩:=h
     obtain⟨g4,g5⟩:=key _ _ g1 g2 g3
     cases lo with
     | none =>
      cases xl with
      | some x=>exact h1.elim
      | none =>
       simp only [Option.getD_none]at g1 g2 g4 ⊢
       refine⟨?_,g4,g5,(fun h=>rfl),fun h=>nomatch h⟩
       simp [Sem.run_bind,hk2,hk3,bound_ok (P:=P) (W:=W) (k:=k3) (y:=cap) (i:=j) ⟨by omega,by omega⟩,bound_ok (P:=P) (W:=W) (k:=k2) (y:=j.toNat) (i:=j) ⟨by omega,by omega⟩]
     | some p =>
      obtain⟨b,i⟩:=p
      cases xl with
      | none=>exact h1.elim
      | some x =>
       obtain⟨k',hk⟩:=h1
       simp only [Option.getD_some]at g1 g2 g4 ⊢
       refine⟨?_,g4,g5,(fun h=>nomatch h),fun h=>nomatch h⟩
       simp [Sem.run_bind,hk,hk2,hk3,bound_ok (P:=P) (W:=W) (k:=k3) (y:=cap) (i:=j) ⟨by omega,by omega⟩,bound_ok (P:=P) (W:=W) (k:=k2) (y:=j.toNat) (i:=j) ⟨by omega,by omega⟩,bound_ok (P:=P) (W:=W) (k:=k') (y:=j.toNat) (i:=i) ⟨g1,by omega⟩]
theorem mem_cut{e:TypeId}{ty:Ty}{l:List D}{A:Option Addr}{x y:Nat}(hm:Den (tyOf P) I α (.mem e l) (.pointer A))(hty:tyOf P e=some ty)(hxy:y≤l.length):∃ b q,A=some ⟨b,q,none⟩∧Den (tyOf P) I α' (.mem e (cutL l x y)) (.pointer (some ⟨b,q+x*ty.n,none⟩)):=by
 cases hm with
 | mem g ht he hI hdd =>
  rename_i ty' b q
  rw [hty]at ht
  obtain rfl:=Option.some.inj ht
  refine⟨b,q,rfl,.mem (fun j=>g (x*ty.n+j)) hty (fun d hd=>he d (List.mem_of_mem_drop (List.mem_of_mem_take hd))) (fun j hj=>?_) fun i j d e' hd hcell=>?_⟩
  ·have hlen:(cutL l x y).length=min (y-x) (l.length-x):=by simp [cutL]
   have:x+(cutL l x y).length≤l.length∨(cutL l x y).length=0:=by omega
   rcases this with h1|h1
   ·have:=Nat.mul_le_mul_right ty.n h1
    rw [Nat.add_mul]at this
    have:=hI (x*ty.n+j) (by omega)
    exact(congrArg (I b) (Nat.add_assoc q (x*ty.n) j)).trans this
   rw [h1]at hj;simp at hj
  unfold cutL at hd
  rw [List.getElem?_take]at hd
  split at hd
  ·rw [List.getElem?_drop]at hd
   have:=hdd (x+i) j d e' hd hcell
   rw [Nat.add_mul,Nat.add_assoc]at this
   exact this
  cases hd
theorem slcL_cut{l:List D}{lo hi:Option (Bool×Int)}{x y:Nat}(h1:lo=none→x=0)(h2:hi=none→y=l.length):slcL l lo hi x y=cutL l x y:=by
 unfold slcL cutL
 cases lo with
 | none =>
  obtain rfl:=h1 rfl
  cases hi with
  | none=>obtain rfl:=h2 rfl;simp
  | some q=>simp
 | some p =>
  cases hi with
  | none=>obtain rfl:=h2 rfl;simp only;rw [List.take_of_length_le (by simp)]
  | some q=>rfl
theorem slc_ok(hi:HInv P (tyOf P) w0 ms h α I W){t:TypeId}{xo:Operand}{lo hi' mx:Option Operand}{x:D}{dl dh dm:Option D}{bs:List Blk}{re:Re}(ho:o.op=.slice t xo lo hi' mx)(hx:Den (tyOf P) I α x (a.eval xo))
 (h1:OptDen P I α a lo dl) (h2:OptDen P I α a hi' dh) (h3:OptDen P I α a mx dm)
 (hbs:∀ n,(∃ i q,x=.p n i q)∨(∃ kn i q,x=.ar kn n i q)→bs=[at_ h n]) (he:Ev E Γ Re (slcP P t x dl dh dm bs) re):Val P o a α I W re:=by
 unfold slcP at he
 split at he
 ·rename_i lo2 hi2 mx2 e1 e2 e3
  have g1:=asO_ok e1 h1
  have g2:=asO_ok e2 h2
  have g3:=asO_ok e3 h3
  have hrunS:∀ {e sz:Nat} {A:Option Addr} {len cap l1 b1 m1:Nat},P.underlying t=some (.slice e)→szOf P e=some sz→a.eval xo=.slice A len cap→(Instr.sliceBounds true len cap (lo.map a.eval) (hi'.map a.eval) (mx.map a.eval)).run P W=.ok (l1,b1,m1) W →
   (execOp a.eval o).run P W=.ok (.value (.slice (if m1=l1 then A else A.map (·.add (l1*sz))) (b1-l1) (m1-l1))) W:=by
   intro e sz A len cap l1 b1 m1 hu hsz hv hb
   simp [execOp,ho,hv,Instr.sliceAt,Instr.slice,run_underlying hu,hb,run_szOf hsz]
  split at he
  ·rename_i e hse
   have hu:=slElem_u hse
   split at he
   ·cases he
   rename_i ty hty
   obtain⟨hsz,_⟩:=ty_of hty
   split at he
   ·rename_i kn l tk hl
    have hx:=asL_ok hl hx
    generalize hvx:a.eval xo=vx at hx
    cases hx with
    | sl hc htk hm =>
     rename_i A c
     split at he
     ·rename_i cc k x y hb
      split at he
      ·obtain⟨hrun,_,_,h4,h5⟩:=bnds_ok (P:=P) (W:=W) (isS:=true) hb (by
        simp only [bnds,Option.getD_none,Option.some.injEq,Prod.mk.injEq]at hb
        rw [← hb.1];simp) hc g1 g2 g3
       obtain rfl:=h4 rfl
       obtain rfl:=h5 rfl
       have ha:A.map (·.add (0*ty.n))=A:=by cases A<;>simp [Addr.add]
       refine .ok1 he (v:=.slice A l.length c) ?_ (.sl hc htk hm)
       rw [hrunS hu hsz hvx hrun,ha]
       simp
      obtain⟨hcc,he⟩:=ev_needK he
      obtain⟨hrun,h6,h7,h4,h5⟩:=bnds_ok (P:=P) (W:=W) (isS:=true) hb hcc hc g1 g2 g3
      rw [slcL_cut h4 h5]at he
      have hlen:(cutL l x y).length=y-x:=by simp [cutL];omega
      refine .ok1 he (hrunS hu hsz hvx hrun) ?_
      rw [← hlen]
      refine .sl ?_ ?_ fun hne=>?_
      ·rw [hlen];split<;>omega
      ·split
       ·show _=_;omega
       trivial
      have hxy:x<y:=by
       rcases Nat.lt_or_ge x y with h|h
       ·exact h
       exact absurd (List.eq_nil_of_length_eq_zero (by omega)) hne
      rw [if_neg (by split<;>omega)]
      obtain⟨b,q,rfl,hmm⟩:=mem_cut (x:=x) (y:=y) (α':=α) (hm (by rintro rfl;simp at h7;omega)) hty h7
      simpa only [Option.map_some,add_zero_addr]using hmm
     cases he
   split at he
   ·rename_i kn n i len _
    split at he
    ·rename_i kn' e' w l
     have hB:at_ h n=.arr kn' e' w l:=(List.cons.inj (hbs n (.inr ⟨_,_,_,rfl⟩))).1.symm
     split at he
     ·rename_i hee
      obtain⟨rfl,rfl⟩:=hee
      split at he
      ·rename_i cc k x y hb
       obtain⟨hcc,he⟩:=ev_needK he
       generalize hvx:a.eval xo=vx at hx
       cases hx with
       | ar hr hw hc hA =>
        rename_i c r A
        obtain⟨_,_,_,ty',cv,tt,j1,j2,j3,j4⟩:=hi.arr hB hr
        rw [hty]at j1
        obtain rfl:=Option.some.inj j1
        obtain⟨hrun,h6,h7,h4,h5⟩:=bnds_ok (P:=P) (W:=W) (isS:=true) hb hcc hc g1 g2 g3
        refine .ok1 he (hrunS hu hsz hvx hrun) (.ar hr (by omega) (by simp;omega) fun h0=>?_)
        have hA:=hA (by omega)
        subst hA
        rw [if_neg (by simp;omega)]
        simp only [Option.map_some,add_zero_addr]
        rw [Nat.add_mul,j2]
      cases he
     cases he
    cases he
   cases he
  split at he
  ·rename_i len e n kn' e' w l hat
   have hB:at_ h n=.arr kn' e' w l:=(List.cons.inj (hbs n (.inl ⟨_,_,rfl⟩))).1.symm
   split at he
   ·rename_i hee
    obtain⟨rfl,hll,rfl⟩:=hee
    split at he
    ·rename_i cc k x y hb
     obtain⟨hcc,he⟩:=ev_needK he
     generalize hvx:a.eval xo=vx at hx
     cases hx with
     | p hr =>
      rename_i r
      obtain⟨_,hrw,_,ty,cv,tt,j1,j2,j3,j4⟩:=hi.arr hB hr
      obtain⟨hsz,_⟩:=ty_of j1
      obtain⟨hrun,h6,h7,h4,h5⟩:=bnds_ok (P:=P) (W:=W) (isS:=false) hb hcc (Nat.le_refl _) g1 g2 g3
      refine .ok1 he (v:=.slice (some (if len=x then⟨r.b,0*r.s+0,none⟩else(⟨r.b,0*r.s+0,none⟩:Addr).add (x*ty.n))) (y-x) (len-x)) ?_ (.ar hr (by omega) (by omega) fun h0=>?_)
      ·simp [execOp,ho,hvx,Instr.sliceAt,run_underlying (arrOf_eq hat),Instr.sureAddr,hrun,run_szOf hsz]
      rw [if_neg (by omega),add_zero_addr,j2];simp
    cases he
   cases he
  cases he
 cases he
end
end Z
end Go.Proofs.YtmgcclhbbhbmcaaGreat
namespace Go.Proofs.YtmgcclhbbhbmcaaGreat
open Go Go.RowKit
namespace Z
section
variable {P:Program}{E:LId→LSt→M Rd1}{Γ:Cn}{w0:World}{ms:Ms}{h:Heap}{α α' β:Al}{I I':Gh}{W W':World}{o:Oper}{a:Act}
def Gh.lay(I:Gh)(b:Nat)(c:Array Value)(lo hi:Nat):Gh:=fun b' o=>if b'=b∧lo≤o∧o<hi then c[o]? else I b' o
theorem Gh.lay_le{b:Nat}{c:Array Value}{lo hi:Nat}(hn:∀ o,lo≤o→o<hi→I b o=none):LeI I (I.lay b c lo hi):=fun b' o' x hx=>by
 unfold Gh.lay
 split
 ·rename_i hc;rw [hc.1,hn o' hc.2.1 hc.2.2]at hx;cases hx
 exact hx
theorem Gh.lay_at{b:Nat}{c:Array Value}{lo hi q:Nat}(h1:lo≤q)(h2:q<hi):(I.lay b c lo hi) b q=c[q]?:=by simp [Gh.lay,h1,h2]
theorem ghost_new(hi:HInv P (tyOf P) w0 ms h α I W)(q:Nat):I W.heap.size q=none:=by
 cases hx:I W.heap.size q with
 | none=>rfl
 | some x=>have:=block_lt_of_cell (hi.gh _ _ _ hx);simp at this
theorem HInv.lay(hi:HInv P (tyOf P) w0 ms h α I W)(c:Array Value)(tt:TypeId):HInv P (tyOf P) w0 ms h α (I.lay W.heap.size c 0 c.size) (W.alloc (.cells c tt))∧LeI I (I.lay W.heap.size c 0 c.size):=by
 refine⟨(hi.go (St.below_alloc W (.cells c tt))).know (Gh.lay_le fun q _ _=>ghost_new hi q) (fun b q x hx=>?_) (fun b q hb _ hq=>?_) fun n r hl hr hv q hq=>?_,Gh.lay_le fun q _ _=>ghost_new hi q⟩
 ·unfold Gh.lay at hx
  split at hx
  ·rename_i hc
   rw [hc.1,cell_of_row _ _ _ c tt (0,0) (heap_alloc_last W _)];exact hx
  exact(hi.go (St.below_alloc W (.cells c tt))).gh b q x hx
 ·unfold Gh.lay
  rw [if_neg (by rintro⟨e,_⟩;have:=hi.old.size;omega)];exact hq
 unfold Gh.lay
 rw [if_neg]
 ·exact hq
 rintro⟨e,_⟩
 obtain⟨r',h1,_,h2⟩:=hi.liv n hl
 rw [hr]at h1;obtain rfl:=Option.some.inj h1
 have:=h2.lt hl hv
 omega
theorem fillD_ok{place:Nat→Option (Nat×Nat)}:∀ {ps:List (Nat×D)}{vs:List Value}{cs cs':List D}{c:Array Value},cs.length=c.size→(∀ (j:Nat) d x,cs[j]?=some d→c[j]?=some x→Den (tyOf P) I α d x)→ps.length=vs.length →
 (∀ (j:Nat) p x,ps[j]?=some p→vs[j]?=some x→Den (tyOf P) I α p.2 x)→fillD place cs ps=some cs'→∃ c',Instr.fill place c ((ps.map (·.1)).zip vs)=some c'∧cs'.length=c'.size∧∀ (j:Nat) d x,cs'[j]?=some d→c'[j]?=some x→Den (tyOf P) I α d x
 | [],vs,cs,cs',c,h1,h2,h3,h4,h=>by
  obtain rfl:cs=cs':=by simpa [fillD]using h
  exact⟨c,by simp [Instr.fill],h1,h2⟩
 | (i,d)::ps,[],cs,cs',c,h1,h2,h3,h4,h=>by simp at h3
 | (i,d)::ps,v::vs,cs,cs',c,h1,h2,h3,h4,h=>by
  unfold fillD at h
  split at h
  ·rename_i off n hp
   split at h
   ·rename_i hc
    obtain⟨g1,g2,g3⟩:=hc
    have g3:∀ e∈d.cells,e.one=true:=List.all_eq_true.1 g3
    have hd:=h4 0 (i,d) v rfl rfl
    obtain⟨e1,e2⟩:=Den.cells (P:=P) (d:=d) hd g3
    have hfit:off+v.cells.size≤c.size:=by omega
    rw [List.map_cons,List.zip_cons_cons,fill_splice (off:=off) (by rw [e1,g1];exact hp) hfit]
    refine fillD_ok (c:=splice c off v.cells) ?_ ?_ (by simpa using h3) (fun j p x a b=>h4 (j+1) p x (by simpa using a) (by simpa using b)) h
    ·rw [splice_size hfit];simp;omega
    intro j d' x hj hx
    rw [splice_get hfit]at hx
    by_cases hj1:j<off
    ·rw [List.append_assoc,List.getElem?_append_left (by simp;omega),List.getElem?_take,if_pos hj1]at hj
     rw [if_neg (by omega)]at hx
     exact h2 j d' x hj hx
    by_cases hj2:j<off+n
    ·rw [List.append_assoc,List.getElem?_append_right (by simp;omega),List.getElem?_append_left (by simp;omega)]at hj
     simp only [List.length_take,Nat.min_eq_left (show off≤cs.length by omega)]at hj
     rw [if_pos (by omega)]at hx
     obtain⟨y,f1,f2,_⟩:=e2 _ _ hj
     rw [hx]at f1;obtain rfl:=Option.some.inj f1
     exact f2
    rw [List.getElem?_append_right (by simp;omega),List.getElem?_drop]at hj
    simp only [List.length_append,List.length_take,Nat.min_eq_left (show off≤cs.length by omega)]at hj
    rw [show off+n+(j-(off+d.cells.length))=j by omega]at hj
    rw [if_neg (by omega)]at hx
    exact h2 j d' x hj hx
   cases h
  cases h
def Args(P:Program)(I:Gh)(α:Al)(a:Act)(xs:List Operand)(vs:List D):Prop:=vs.length=xs.length∧∀ (j:Nat) d x,vs[j]?=some d→xs[j]?=some x→Den (tyOf P) I α d (a.eval x)
theorem parts_zip{ps:Array (Nat×Operand)}{vs:List D}(h:Args P I α a (ps.toList.map (·.2)) vs):((ps.toList.map (·.1)).zip vs).length=(ps.toList.map fun p=>a.eval p.2).length ∧
 (∀ (j:Nat) p x,((ps.toList.map (·.1)).zip vs)[j]?=some p→(ps.toList.map fun p=>a.eval p.2)[j]?=some x→Den (tyOf P) I α p.2 x)∧(((ps.toList.map (·.1)).zip vs).map (·.1)).zip (ps.toList.map fun p=>a.eval p.2)=(ps.map fun(i,x)=>(i,a.eval x)).toList:=by
 obtain⟨h1,h2⟩:=h
 have hl:vs.length=ps.toList.length:=by simpa using h1
 refine⟨by rw [List.length_zip];simp only [List.length_map];omega,fun j p x e1 e2=>?_,?_⟩
 ·rw [List.getElem?_map]at e2
  obtain⟨q,h3,rfl⟩:=Option.map_eq_some_iff.1 e2
  rw [List.getElem?_zip_eq_some]at e1
  exact h2 j p.2 q.2 e1.2 (by rw [List.getElem?_map,h3];rfl)
 rw [List.map_fst_zip (by simp only [List.length_map];omega),Array.toList_map]
 have:∀ l:List (Nat×Operand),(l.map (·.1)).zip (l.map fun p=>a.eval p.2)=l.map fun p=>(p.1,a.eval p.2):=fun l=>by
  induction l with
  | nil=>rfl
  | cons p l ih=>simp [ih]
 exact this _
theorem built_place{t:TypeId}{pf:Nat→Option (Nat×Nat)}{z:Value}{parts:List (Nat×Value)}(hp:placeF P t=some pf)(hz:zeroOf P t=some z):P.built t parts=Instr.fill pf z.cells parts:=by
 unfold placeF at hp
 split at hp
 ·rename_i ps hps
  cases hp
  rw [built_struct hps hz]
  congr 1
  funext i
  simp
 split at hp
 ·rename_i n e ha
  split at hp
  ·rename_i sz hsz
   cases hp
   have hu:=arrOf_eq ha
   unfold zeroOf at hz
   unfold szOf at hsz
   unfold Program.built
   cases hq:P.info? t with
   | none=>simp [hq]at hz
   | some i =>
    have hz':i.zero=some z:=by simpa [hq]using hz
    cases hr:P.info? e with
    | none=>simp [hr]at hsz
    | some q =>
     have hs':q.size=sz:=by simpa [hr]using hsz
     simp [hu,hz',hr,hs']
  cases hp
 cases hp
theorem build_ok{t:TypeId}{ps:Array (Nat×Operand)}{vs:List D}{re:Re}(ho:o.op=.build t ps)(hv:Args P I α a (ps.toList.map (·.2)) vs)(he:Ev E Γ Re (buildP P t ((ps.toList.map (·.1)).zip vs)) re):Val P o a α I W re:=by
 unfold buildP at he
 split at he
 ·rename_i pl z hpl hz
  obtain⟨zv,h1,h2⟩:=zeroD_ok (I:=I) (α:=α) hz
  cases h2 with
  | agg hl hd =>
   rename_i zc
   split at he
   ·rename_i cs hf
    obtain⟨a1,a2,a3⟩:=parts_zip hv
    obtain⟨c',f1,f2,f3⟩:=fillD_ok (P:=P) (I:=I) (α:=α) (c:=zc) hl hd a1 a2 hf
    rw [a3]at f1
    refine .ok1 he (v:=.agg c') ?_ (.agg f2 f3)
    have hb:P.built t (ps.map fun(i,x)=>(i,a.eval x)).toList=some c':=by
     rw [built_place hpl h1]
     exact f1
    unfold execOp
    simp only [ho,Sem.run_bind,run_build W t _ c' hb,Result.andThen_ok,Sem.run_pure]
   cases he
 cases he
theorem seqIdx_ok:∀ {ps:List (Nat×D)}{k:Nat},seqIdx ps k=true→ps.map (·.1)=(List.range' k ps.length)
 | [],k,_=>rfl
 | (i,d)::ps,k,h=>by
  simp only [seqIdx,Bool.and_eq_true,beq_iff_eq]at h
  rw [List.map_cons,List.length_cons,List.range'_succ,seqIdx_ok h.2,h.1]
theorem zip_range:∀ (vs:List Value)(k:Nat),(List.range' k vs.length).zip vs=(vs.zipIdx k).map fun p=>(p.2,p.1)
 | [],_=>rfl
 | v::vs,k=>by rw [List.length_cons,List.range'_succ,List.zip_cons_cons,zip_range vs (k+1)];simp
theorem flatL_get{sz:Nat}:∀ {vs:List Value}{i j:Nat}{v x:Value},(∀ v∈vs,v.cells.size=sz)→vs[i]?=some v→v.cells[j]?=some x→(flatL vs)[i*sz+j]?=some x
 | [],_,_,_,_,_,h,_=>by simp at h
 | u::vs,0,j,v,x,hs,h,hx=>by
  obtain rfl:u=v:=by simpa using h
  have hj:j<u.cells.size:=(Array.getElem?_eq_some_iff.1 hx).1
  rw [flatL,List.getElem?_append_left (by simp;omega)]
  simpa using hx
 | u::vs,i+1,j,v,x,hs,h,hx=>by
  have hu:=hs u (List.mem_cons_self ..)
  rw [flatL,List.getElem?_append_right (by simp [hu,Nat.add_mul];omega)]
  have:=flatL_get (fun v hv=>hs v (List.mem_cons_of_mem _ hv)) (by simpa using h:vs[i]?=some v) hx
  rw [← this];congr 1
  simp [hu,Nat.add_mul];omega
theorem buildS_ok(hi:HInv P (tyOf P) w0 ms h α I W){t:TypeId}{n:Nat}{ps:Array (Nat×Operand)}{vs:List D}{re:Re}(ho:o.op=.buildSlice t n ps)(hv:Args P I α a (ps.toList.map (·.2)) vs)(he:Ev E Γ Re (buildS P t n ((ps.toList.map (·.1)).zip vs)) re) :
 ∃ d us,re=.ok d us∧OkOp P w0 ms o a h α I W d us:=by
 obtain⟨a1,a2,a3⟩:=parts_zip hv
 unfold buildS at he
 split at he
 ·rename_i e hse
  have hu:=slElem_u hse
  split at he
  ·rename_i ty hty
   obtain⟨hsz,_⟩:=ty_of hty
   split at he
   ·rename_i hc
    obtain⟨c1,c2,c3,c5,c6,c4⟩:=hc
    have c4:∀ p∈(ps.toList.map (·.1)).zip vs,elB ty p.2.strip=true:=List.all_eq_true.1 c4
    obtain rfl:=ev_ok1 he
    refine⟨_,_,rfl,?_⟩
    generalize hpp:(ps.toList.map (·.1)).zip vs=pp at *
    generalize hvv:ps.toList.map (fun p=>a.eval p.2)=vv at *
    have hel:∀ (i:Nat) p x,pp[i]?=some p→vv[i]?=some x→Den (tyOf P) I α p.2.strip x∧ElOk ty p.2.strip∧∀ c∈p.2.strip.cells,c.one=true∧c.pure=true:=fun i p x e1 e2=>by
     obtain⟨b1,b2⟩:=elB_el (c4 p (List.mem_of_getElem? e1))
     exact⟨(a2 i p x e1 e2).strip,b1,b2⟩
    have hvs:∀ v∈vv,v.cells.size=ty.n:=fun v hv=>by
     obtain⟨i,hi',rfl⟩:=List.getElem_of_mem hv
     obtain⟨b1,b2,b3⟩:=hel i pp[i] vv[i] (List.getElem?_eq_getElem (by omega)) (List.getElem?_eq_getElem hi')
     rw [(b1.cells fun c hc=>(b3 c hc).1).1,b2.1.len]
    have hvn:vv.length=n:=by omega
    obtain⟨z,hz⟩:=Option.isSome_iff_exists.1 c6
    have hrun:(execOp a.eval o).run P W=.ok (.value (.slice (some ⟨W.heap.size,0,none⟩) n n)) (W.alloc (.cells (flatL vv).toArray e)):=by
     cases hie:P.info? e with
     | none=>simp [szOf,hie]at hsz
     | some ie =>
      have hz':ie.zero=some z:=by simpa [zeroOf,hie]using hz
      have hs':ie.size=ty.n:=by simpa [szOf,hie]using hsz
      have hfill:=fill_seq (sz:=ty.n) vv 0 [] ((Array.range (n*ty.n)).map (z.cells[· % z.cells.size]!)).toList hvs (by simp) (by simp [hvn])
      have hparts:(ps.map fun(i,x)=>(i,a.eval x)).toList=(vv.zipIdx 0).map fun p=>(p.2,p.1):=by
       rw [← a3,seqIdx_ok c2,a1,zip_range]
      rw [← hparts]at hfill
      have:=run_buildSlice (P:=P) W t e n (ps.map fun(i,x)=>(i,a.eval x)) (flatL vv).toArray ie z hu hie hz' (by rw [hs'];omega) (by rw [hs'];omega) (by rw [hs'];simpa only [List.nil_append,Array.toArray_toList]using hfill)
      unfold execOp
      simp only [ho,Sem.run_bind,this,Result.andThen_ok,Sem.run_pure]
    obtain⟨hL,hle⟩:=hi.lay (flatL vv).toArray e
    have hlen:(flatL vv).length=n*ty.n:=by rw [flatL_len hvs,hvn]
    have hpl:(pp.map fun p=>p.2.strip).length=n:=by simp [c1]
    refine⟨_,_,_,α,_,hrun,.inl rfl,hle,.refl _,hL,?_⟩
    have hden:Den (tyOf P) (I.lay W.heap.size (flatL vv).toArray 0 (flatL vv).toArray.size) α (.sl true e (pp.map fun p=>p.2.strip) .full) (.slice (some ⟨W.heap.size,0,none⟩) (pp.map fun p=>p.2.strip).length (pp.map fun p=>p.2.strip).length):=by
     refine .sl (Nat.le_refl _) rfl fun _=>mem_den hty (fun d hd=>?_) fun i j d e' h1 h2=>?_
     ·obtain⟨p,hp,rfl⟩:=List.mem_map.1 hd
      exact(elB_el (c4 p hp)).1
     rw [List.getElem?_map]at h1
     obtain⟨p,hp,rfl⟩:=Option.map_eq_some_iff.1 h1
     have hi':i<vv.length:=by rw [← a1];exact(List.getElem?_eq_some_iff.1 hp).1
     obtain⟨b1,b2,b3⟩:=hel i p vv[i] hp (List.getElem?_eq_getElem hi')
     obtain⟨y,f1,f2,_⟩:=(b1.cells fun c hc=>(b3 c hc).1).2 j e' h2
     have hfl:=flatL_get hvs (List.getElem?_eq_getElem hi') f1
     refine⟨y,?_,(f2.pure' non (b3 e' (List.mem_of_getElem? h2)).2).mono hle (.refl _)⟩
     rw [Nat.zero_add,Gh.lay_at (Nat.zero_le _) (by simpa using (List.getElem?_eq_some_iff.1 hfl).1)]
     simpa using hfl
    rw [hpl]at hden
    exact hden
   split at he
   ·rename_i hc
    obtain⟨rfl,hpp⟩:=hc
    obtain rfl:=ev_ok1 he
    refine⟨_,_,rfl,?_⟩
    obtain⟨hL,hle⟩:=hi.lay #[] e
    refine⟨.value (.slice (some ⟨W.heap.size,0,none⟩) 0 0),_,_,α,_,?_,.inl rfl,hle,.refl _,hL,.sl (l:=[]) (Nat.le_refl _) rfl fun h=>absurd rfl h⟩
    have h0:ps.toList=[]:=by
     have:=a1
     rw [hpp]at this
     exact List.eq_nil_of_length_eq_zero (by simpa using this.symm)
    obtain rfl:ps=#[]:=by simpa using h0
    unfold execOp
    simp [ho,Instr.buildSlice,run_underlying hu,run_szOf hsz,Instr.fill,newRow]
    have e0:Array.map (fun _=>(default:Value)) (Array.range 0)=#[]:=by simp
    rw [e0]
   cases he
  cases he
 cases he
end
end Z
end Go.Proofs.YtmgcclhbbhbmcaaGreat
namespace Go.Proofs.YtmgcclhbbhbmcaaGreat
open Go Go.RowKit
namespace Z
section
variable {P:Program}{E:LId→LSt→M Rd1}{Γ:Cn}{w0:World}{ms:Ms}{h:Heap}{α α' β:Al}{I I':Gh}{W W':World}{o:Oper}{a:Act}
structure SrcD(P:Program)(I:Gh)(W:World)(e:TypeId)(ty:Ty)(xs:List D)(y:Value)(news:List Value):Prop where
 hdr:∃ B c,y=.slice B xs.length c∧(0<xs.length→∃ b q,B=some ⟨b,q,none⟩∧∀ (j:Nat) u,news[j]?=some u→W.cell? ⟨b,q+j,none⟩=some u)
 len:news.length=xs.length*ty.n
 one:∀ u∈news,u.oneCell'=true
 den:∀ (i j:Nat) d e',xs[i]?=some d→d.cells[j]?=some e'→∃ x,news[i*ty.n+j]?=some x∧Den (tyOf P) I non e' x
 el:∀ d∈xs,ElOk ty d
theorem cells_list{sz b q:Nat}{xs:List D}(hn:∀ (i:Nat) d,xs[i]?=some d→d.cells.length=sz)(hc:∀ (i j:Nat) d e',xs[i]?=some d→d.cells[j]?=some e'→∃ x,W.cell? ⟨b,q+(i*sz+j),none⟩=some x∧Den (tyOf P) I α e' x∧e'.one=true) :
 ∃ news:List Value,news.length=xs.length*sz∧(∀ (j:Nat) u,news[j]?=some u→W.cell? ⟨b,q+j,none⟩=some u)∧(∀ u∈news,u.oneCell'=true)∧∀ (i j:Nat) d e',xs[i]?=some d→d.cells[j]?=some e'→∃ x,news[i*sz+j]?=some x∧Den (tyOf P) I α e' x∧e'.one=true:=by
 have key:∀ k,k<xs.length*sz→∃ (e':D) (x:Value),W.cell? ⟨b,q+k,none⟩=some x∧Den (tyOf P) I α e' x∧e'.one=true:=fun k hk=>by
  have h0:0<sz:=by
   rcases Nat.eq_zero_or_pos sz with h|h
   ·rw [h]at hk;simp at hk
   exact h
  have hi:k / sz<xs.length:=(Nat.div_lt_iff_lt_mul h0).2 hk
  have hd:=List.getElem?_eq_getElem hi
  have hj:k % sz<xs[k / sz].cells.length:=by rw [hn _ _ hd];exact Nat.mod_lt _ h0
  obtain⟨x,h1,h2⟩:=hc _ _ _ _ hd (List.getElem?_eq_getElem hj)
  rw [show k / sz*sz+k % sz=k by rw [Nat.mul_comm];exact Nat.div_add_mod k sz]at h1
  exact⟨_,x,h1,h2⟩
 have hget:∀ (k:Nat),k<xs.length*sz→((List.range (xs.length*sz)).map fun k=>(W.cell? ⟨b,q+k,none⟩).getD undef)[k]?=W.cell? ⟨b,q+k,none⟩:=fun k hk=>by
  obtain⟨e',x,h1,_⟩:=key k hk
  rw [List.getElem?_map,List.getElem?_range hk]
  simp [h1]
 refine⟨(List.range (xs.length*sz)).map fun k=>(W.cell? ⟨b,q+k,none⟩).getD undef,by simp,fun j u hu=>?_,fun u hu=>?_,fun i j d e' h1 h2=>?_⟩
 ·have hj:j<xs.length*sz:=by have:=(List.getElem?_eq_some_iff.1 hu).1;simpa using this
  rw [hget j hj]at hu;exact hu
 ·obtain⟨k,hk,rfl⟩:=List.mem_map.1 hu
  obtain⟨e',x,h1,h2,h3⟩:=key k (by simpa using hk)
  rw [h1];exact h2.one h3
 obtain⟨x,h3,h4⟩:=hc i j d e' h1 h2
 have hi:i<xs.length:=(List.getElem?_eq_some_iff.1 h1).1
 have hj:j<sz:=by rw [← hn i d h1];exact(List.getElem?_eq_some_iff.1 h2).1
 have:(i+1)*sz≤xs.length*sz:=Nat.mul_le_mul_right _ hi
 rw [Nat.add_mul]at this
 exact⟨x,(hget _ (by omega)).trans h3,h4⟩
theorem ElOk.ones{ty:Ty}{d:D}(hel:ElOk ty d):∀ e∈d.cells,e.one=true:=by
 intro e he
 obtain⟨j,hj,rfl⟩:=List.getElem_of_mem he
 have hl:=hel.1.len
 exact(hel.2 j ty.ks[j] _ (List.getElem?_eq_getElem (by have:ty.n=ty.ks.length:=rfl;omega)) (List.getElem?_eq_getElem hj)).one
theorem srcD_sl(hi:HInv P (tyOf P) w0 ms h α I W){e:TypeId}{ty:Ty}{kn:Bool}{l:List D}{tk:Tok}{v:Value}(hv:Den (tyOf P) I α (.sl kn e l tk) v)(hty:tyOf P e=some ty):∃ news,SrcD P I W e ty l v news:=by
 cases hv with
 | sl hc hk hm =>
  rename_i A c
  by_cases hl:l=[]
  ·subst hl
   exact⟨[],⟨A,c,rfl,fun h=>by simp at h⟩,by simp,(fun u hu=>by simp at hu),(fun i j d e' h=>by simp at h),fun d hd=>by simp at hd⟩
  have hm:=hm hl
  cases hm with
  | mem g ht he hI hd =>
   rename_i ty' b q
   rw [hty]at ht
   obtain rfl:=Option.some.inj ht
   have hcell:∀ (i j:Nat) d e',l[i]?=some d→d.cells[j]?=some e'→∃ x,W.cell? ⟨b,q+(i*ty.n+j),none⟩=some x∧Den (tyOf P) I non e' x∧e'.one=true:=fun i j d e' h1 h2=>by
    have hel:=he d (List.mem_of_getElem? h1)
    have hi':i<l.length:=(List.getElem?_eq_some_iff.1 h1).1
    have hj:j<ty.n:=by rw [← hel.1.len];exact(List.getElem?_eq_some_iff.1 h2).1
    have:(i+1)*ty.n≤l.length*ty.n:=Nat.mul_le_mul_right _ hi'
    rw [Nat.add_mul]at this
    exact⟨_,hi.gh _ _ _ (hI (i*ty.n+j) (by omega)),hd i j d e' h1 h2,hel.ones e' (List.mem_of_getElem? h2)⟩
   obtain⟨news,n1,n2,n3,n4⟩:=cells_list (P:=P) (I:=I) (α:=non) (fun i d h1=>(he d (List.mem_of_getElem? h1)).1.len) hcell
   exact⟨news,⟨_,c,rfl,fun _=>⟨b,q,rfl,n2⟩⟩,n1,n3,(fun i j d e' h1 h2=>let ⟨x,a,b,_⟩:=n4 i j d e' h1 h2;⟨x,a,b⟩),he⟩
theorem srcD_ar(hi:HInv P (tyOf P) w0 ms h α I W){e:TypeId}{ty:Ty}{kn kn':Bool}{n i len w:Nat}{l:List D}{v:Value}(hv:Den (tyOf P) I α (.ar kn n i len) v)(hB:at_ h n=.arr kn' e w l)(hty:tyOf P e=some ty)(hcl:kn'=true→∀ d∈l,elB ty d=true) :
 ∃ news,SrcD P I W e ty ((l.drop i).take len) v news:=by
 cases hv with
 | ar hr hw hc hA =>
  rename_i c r A
  obtain⟨hv,hrw,hlw,ty',cc,tt,h1,h2,h3,h4,h5,h6,h7,h8⟩:=hi.arr hB hr
  rw [hty]at h1
  obtain rfl:=Option.some.inj h1
  have hel:∀ d∈l,ElOk ty d∧∀ c∈d.cells,c.pure=true:=fun d hd=>by
   cases kn' with
   | true=>obtain⟨a1,a2⟩:=elB_el (hcl rfl d hd);exact⟨a1,fun c hc=>(a2 c hc).2⟩
   | false=>obtain⟨a1,a2⟩:=h7 rfl d hd;exact⟨a1,List.all_eq_true.1 a2⟩
  have hlen:((l.drop i).take len).length=len:=by simp;omega
  have hget:∀ (m:Nat) d,((l.drop i).take len)[m]?=some d→l[i+m]?=some d:=fun m d hd=>by
   rw [List.getElem?_take]at hd
   split at hd
   ·rw [List.getElem?_drop]at hd;exact hd
   cases hd
  have hcell:∀ (m j:Nat) d e',((l.drop i).take len)[m]?=some d→d.cells[j]?=some e'→∃ x,W.cell? ⟨r.b,i*ty.n+(m*ty.n+j),none⟩=some x∧Den (tyOf P) I non e' x∧e'.one=true:=fun m j d e' g1 g2=>by
   obtain⟨x,f1,f2,f3⟩:=h8.2 (i+m) j d e' (hget m d g1) g2
   refine⟨x,?_,f2.pure' _ ((hel d (List.mem_of_getElem? (hget m d g1))).2 e' (List.mem_of_getElem? g2)),f3⟩
   rw [cell_of_row W r.b _ cc tt (0,0) h3,← f1]
   congr 1
   rw [Nat.add_mul];omega
  obtain⟨news,n1,n2,n3,n4⟩:=cells_list (P:=P) (I:=I) (α:=non) (sz:=ty.n) (fun m d g1=>(hel d (List.mem_of_getElem? (hget m d g1))).1.1.len) hcell
  refine⟨news,⟨A,c,by rw [hlen],fun h0=>⟨r.b,i*ty.n,by rw [hA (by omega),h2],n2⟩⟩,n1,n3,(fun m j d e' g1 g2=>let ⟨x,a,b,_⟩:=n4 m j d e' g1 g2;⟨x,a,b⟩),fun d hd=>?_⟩
  obtain⟨m,hm,rfl⟩:=List.getElem_of_mem hd
  exact(hel _ (List.mem_of_getElem? (hget m _ (List.getElem?_eq_getElem hm)))).1
theorem SrcD.src{e tx:TypeId}{ty:Ty}{xs:List D}{y:Value}{news:List Value}(hs:SrcD P I W e ty xs y news)(hu:P.underlying tx=some (.slice e)):Src P ty.n tx y xs.length news W:=by
 obtain⟨B,c,rfl,hc⟩:=hs.hdr
 rcases Nat.eq_zero_or_pos xs.length with h0|h0
 ·have hn:news=[]:=List.eq_nil_of_length_eq_zero (by rw [hs.len,h0,Nat.zero_mul])
  subst hn
  refine⟨.inl ⟨e,hu⟩,(fun w'=>by simp [Builtin.lenOf]),?_,?_,hs.len,hs.one⟩
  ·rw [h0]
   cases B with
   | none=>simp [Builtin.firstCells]
   | some b=>exact run_firstCells_some W ty.n 0 b 0 c [] (by simp) fun j v hv=>by simp at hv
  rw [h0]
  cases B with
  | none=>simp [Builtin.firstCells]
  | some b=>exact run_firstCells_some W.drew ty.n 0 b 0 c [] (by simp) fun j v hv=>by simp at hv
 obtain⟨b,q,rfl,h1⟩:=hc h0
 exact Src.ofSlice W hu _ _ c news hs.len (fun j u hu=>by rw [add_zero_addr];exact h1 j u hu) hs.one
theorem SrcD.first{e:TypeId}{ty:Ty}{xs:List D}{A:Option Addr}{n c:Nat}{olds:List Value}(hs:SrcD P I W e ty xs (.slice A n c) olds):(Builtin.firstCells ty.n n (.slice A n c)).run P W.drew=.ok olds.toArray W.drew:=by
 obtain⟨B,c',he,hc⟩:=hs.hdr
 injection he with e1 e2 e3
 subst e1;subst e2;subst e3
 rcases Nat.eq_zero_or_pos xs.length with h0|h0
 ·have hn:olds=[]:=List.eq_nil_of_length_eq_zero (by rw [hs.len,h0,Nat.zero_mul])
  subst hn
  rw [h0]
  cases A with
  | none=>simp [Builtin.firstCells]
  | some b=>exact run_firstCells_some W.drew ty.n 0 b 0 c [] (by simp) fun j v hv=>by simp at hv
 obtain⟨b,q,rfl,h1⟩:=hc h0
 exact run_firstCells_some W.drew ty.n _ _ _ c olds hs.len fun j u hu=>by rw [add_zero_addr];exact h1 j u hu
end
end Z
end Go.Proofs.YtmgcclhbbhbmcaaGreat
