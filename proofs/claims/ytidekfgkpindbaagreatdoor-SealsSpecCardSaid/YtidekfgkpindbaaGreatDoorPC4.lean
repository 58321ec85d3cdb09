/-
  Texts behind the statement, part 4.
-/
import Derived.Test.YtidekfgkpindbaaGreatDoorPC3
import Derived.Test.YtidekfgkpindbaaGreatDoorPC1
set_option linter.unusedSimpArgs false
set_option linter.unusedVariables false
namespace Go.Proofs.YtidekfgkpindbaaGreatDoor
open Go Go.RowKit
namespace SX
def cO.La(C:Cx)(ρ:List Value)(α:Nat→AV)(q:cO)(args:List V)(Q:Value→List Arg→Prop):Prop:=match q with
 | .callq g rw=>∃ as',bK C ρ α rw args as'∧C.Rn C.K g as' Q
 | .lastq sz=>∀ A n c,((ab ρ α args).flatMap aa).length=n*sz→n≤c→(0<n→A.isSome=true)→Q (.slice A n c) [⟨.slice A n c,sz,(ab ρ α args).flatMap aa⟩]
 | _=>False
theorem m3{C:Cx}{ρ:List Value}{α:Nat→AV}{q:cO}{args:List V}{Q:Value→List Arg→Prop}{hp:List (Option ae)}{m:Nat}(hq:q.wf hp m=true)(h:q.La C ρ α args Q):False:=by
 cases q<;>first|exact h|cases hq
theorem MT{C:Cx}{ρ:List Value}{α:Nat→AV}{g:FuncId}{rw:List Rw}{args:List V}{v:Value}(h:(cO.callq g rw).rel C ρ α args v):False:=by
 unfold cO.rel at h
 split at h<;>first|exact h|(rename_i hq;cases hq)|skip
mutual
def VC:Cx→eT→List (World→Prop)→List TF→(Ending→World→Prop)→List (Cx→List Value→Prop)→List Value→Tree→Prop
 | C,w0,ps,T0,R,L,ρ,.df q args sh t=>(∃ v,(∀ α,q.rel C ρ α args v)∧sh.fit v=true∧VC C w0 ps T0 R L (ρ++[v]) t) ∨
  ((∀ f,C.cw f=none)∧∃ Q:Value→List Arg→Prop,(∀ α,q.La C ρ α args Q)∧∀ v N,sh.fit v=true→Q v N→VC (C.plus (N++C.N)) w0 (Kf (C.plus (N++C.N))::NF (C.plus (N++C.N))::ps) T0 R L (ρ++[v]) t)
 | C,w0,ps,T0,R,L,ρ,.br i p t e=>∃ b,p.foldl comp (ρ.getD i undef)=.bool b∧(b=true→VC C w0 ps T0 R L ρ t)∧(b=false→VC C w0 ps T0 R L ρ e)
 | C,w0,ps,T0,R,L,ρ,.sp i p l=>(∃ j:Nat,j<l.length∧p.foldl comp (ρ.getD i undef)=.int .i64 j)∧EM C w0 ps T0 R L ρ (p.foldl comp (ρ.getD i undef)) 0 l
 | C,w0,ps,T0,R,L,ρ,.ret v hp stk=>∀ α W,vR ρ α stk T0→(∀ (n:Nat) (b:ae),hp[n]?=some (some b)→b.bo ρ α n)→St w0 (aN ρ α 0 hp) [] (gD w0 ρ α 0 hp++ps) W→R (.returned (v.den ρ α)) W
 | C,w0,ps,T0,R,L,ρ,.loop vals shs t=>(∃ (I:List Value→Prop) (μ:List Value→Nat),(∀ α,I (ab ρ α vals))∧∀ xs,Sh.dC shs xs=true→I xs→VC C w0 ps T0 R (L++[fun(_:Cx) (ys:List Value)=>I ys∧μ ys<μ xs]) (ρ++xs) t) ∨
  ((∀ f,C.cw f=none)∧∃ (I:List Value→List Arg→Prop) (μ:List Value→Nat),(∀ α,∃ N,(∀ y∈N,y∈C.N)∧I (ab ρ α vals) N)∧∀ xs N,Sh.dC shs xs=true→I xs N→VC (C.plus N) w0 (Kf (C.plus N)::NF (C.plus N)::ps) T0 R (L++[fun(C':Cx) (ys:List Value)=>C'.nb=C.nb∧∃ N':List Arg,(∀ y∈N',y∈C'.N)∧I ys N'∧μ ys<μ xs]) (ρ++xs) t)
 | C,w0,ps,T0,R,L,ρ,.again l vals=>∀ α,(L.getD l fun(_:Cx) (_:List Value)=>False) C (ab ρ α vals)
 | _,_,_,_,_,_,_,.bad _ _=>False
def EM:Cx→eT→List (World→Prop)→List TF→(Ending→World→Prop)→List (Cx→List Value→Prop)→List Value→Value→Nat→List Tree→Prop
 | _,_,_,_,_,_,_,_,_,[]=>True
 | C,w0,ps,T0,R,L,ρ,u,j,t::l=>(u=.int .i64 (j:Int)→VC C w0 ps T0 R L ρ t)∧EM C w0 ps T0 R L ρ u (j+1) l
end
theorem yD{C:Cx}{w0:eT}{ps:List (World→Prop)}{T0:List TF}{R:Ending→World→Prop}{L:List (Cx→List Value→Prop)}{ρ:List Value}{u:Value}:∀ {l:List Tree}{k j:Nat}{t:Tree},EM C w0 ps T0 R L ρ u k l→l[j]?=some t→u=.int .i64 ((k+j:Nat):Int)→VC C w0 ps T0 R L ρ t
 | [],_,_,_,_,h,_=>by simp at h
 | t'::l,k,0,t,h,ht,hu=>by
  obtain rfl:t'=t:=by simpa using ht
  unfold EM at h
  exact h.1 hu
 | t'::l,k,j+1,t,h,ht,hu=>by
  unfold EM at h
  exact yD (k:=k+1) (j:=j) h.2 (by simpa using ht) (by rw [hu];congr 2;omega)
def EP(f g:List (Option V)):Prop:=f.length=g.length∧∀ (d:Nat) (v:V),f[d]?=some (some v)→g[d]?=some (some v)
def j0:List (List (Option V))→List (List (Option V))→Prop
 | [],[]=>True
 | a::l,b::m=>EP a b∧j0 l m
 | _,_=>False
def yB(skip:Nat→Nat→Bool)(l m:List (List (Option V))):Prop:=l.length=m.length∧∀ (k:Nat) (a b:List (Option V)),l[k]?=some a→m[k]?=some b→a.length=b.length∧∀ (d:Nat) (v:V),skip k d=false→a[d]?=some (some v)→b[d]?=some (some v)
structure vU(an:jY)(ws:List Nat)(s0 s:S):Prop where
 fr:s0.fr.length=s.fr.length∧∀ (d:Nat) (v:V),yi an ws d=false→s0.fr[d]?=some (some v)→s.fr[d]?=some (some v)
 stk:yB (qV an) s0.stk s.stk
 hp:∀ (n:Nat) (b:ae),s0.hp[n]?=some (some b)→n∉eZ an s0→∃ b',s.hp[n]?=some (some b')∧b'.t=b.t∧b'.k=b.k∧b'.c.length=b.c.length∧∀ (k:Nat) (v:V),BQ an n k=false→b.c[k]?=some v→b'.c[k]?=some v
 ln:∀ (n:Nat) (b:ae),s0.ln[n]?=some (some b)→s.ln[n]?=some (some b)
 live:∀ (n:Nat) (b:ae),s0.hp[n]?=some (some b)→lv s0.ln n=true
 lps:s0.lps=s.lps
 lpl:∀ q∈s0.lps,lv s0.ln q.1=true
theorem EP.refl(f:List (Option V)):EP f f:=⟨rfl,fun _ _ h=>h⟩
theorem j0.refl:∀ l:List (List (Option V)),j0 l l
 | []=>trivial
 | a::l=>⟨.refl a,.refl l⟩
theorem vU.refl(an:jY)(ws:List Nat)(s:S)(hl:∀ (n:Nat)(b:ae),s.hp[n]?=some (some b)→lv s.ln n=true)(hlp:∀ q∈s.lps,lv s.ln q.1=true):vU an ws s s:=⟨⟨rfl,fun _ _ _ h=>h⟩,⟨rfl,fun _ _ _ h1 h2=>by rw [h1]at h2;cases h2;exact⟨rfl,fun _ _ _ h=>h⟩⟩,fun n b h _=>⟨b,h,rfl,rfl,rfl,fun _ _ _ h=>h⟩,fun _ _ h=>h,hl,rfl,hlp⟩
theorem mC{skip:Nat→Bool}:∀ {f g:List (Option V)}{k:Nat},mB skip k f g=true→f.length=g.length∧∀ (d:Nat)(v:V),skip (k+d)=false→f[d]?=some (some v)→g[d]?=some (some v)
 | [],[],_,_=>⟨rfl,fun d v _ h=>by simp at h⟩
 | [],_::_,_,h=>by simp [mB]at h
 | _::_,[],_,h=>by simp [mB]at h
 | a::l,b::m,k,h=>by
  simp only [mB,Bool.and_eq_true,Bool.or_eq_true]at h
  obtain⟨h1,h2⟩:=mC h.2
  refine⟨by simp [h1],fun d v hd hv=>?_⟩
  cases d with
  | zero =>
   simp at hv
   subst hv
   rcases h.1 with h3|h3
   ·rw [Nat.add_zero]at hd;rw [hd]at h3;cases h3
   cases b with
   | none=>simp [Mv]at h3
   | some u=>rw [V.ka v u h3];rfl
  | succ d =>
   simpa using h2 d v (by rwa [show k+1+d=k+(d+1) by omega]) (by simpa using hv)
theorem ux:∀ {l m:List (List (Option V))},mD l m=true→j0 l m
 | [],[],_=>trivial
 | [],_::_,h=>by simp [mD]at h
 | _::_,[],h=>by simp [mD]at h
 | a::l,b::m,h=>by
  simp only [mD,Bool.and_eq_true]at h
  obtain⟨h1,h2⟩:=mC h.1
  exact⟨⟨h1,fun d v hv=>h2 d v rfl hv⟩,ux h.2⟩
theorem wT{skip:Nat→Nat→Bool}:∀ {l m:List (List (Option V))}{k0:Nat},sK skip k0 l m=true→l.length=m.length∧∀ (k:Nat)(a b:List (Option V)),l[k]?=some a→m[k]?=some b→a.length=b.length∧∀ (d:Nat)(v:V),skip (k0+k) d=false→a[d]?=some (some v)→b[d]?=some (some v)
 | [],[],_,_=>⟨rfl,fun k a b h _=>by simp at h⟩
 | [],_::_,_,h=>by simp [sK]at h
 | _::_,[],_,h=>by simp [sK]at h
 | a::l,b::m,k0,h=>by
  simp only [sK,Bool.and_eq_true]at h
  obtain⟨h1,h2⟩:=mC h.1
  obtain⟨h3,h4⟩:=wT h.2
  refine⟨by simp [h3],fun k x y hx hy=>?_⟩
  cases k with
  | zero =>
   simp at hx hy
   subst hx;subst hy
   exact⟨h1,fun d v hd hv=>h2 d v (by rwa [Nat.zero_add]) hv⟩
  | succ k =>
   have:=h4 k x y (by simpa using hx) (by simpa using hy)
   exact⟨this.1,fun d v hd hv=>this.2 d v (by rwa [show k0+1+k=k0+(k+1) by omega]) hv⟩
theorem tw{skip:Nat→Nat→Bool}:∀ {l m:List (List (Option V))},j0 l m→yB skip l m
 | [],[],_=>⟨rfl,fun k a b h _=>by simp at h⟩
 | [],_::_,h=>by simp [j0]at h
 | _::_,[],h=>by simp [j0]at h
 | a::l,b::m,h=>by
  obtain⟨h1,h2⟩:=h
  obtain⟨h3,h4⟩:=tw (skip:=fun k=>skip (k+1)) h2
  refine⟨by simp [h3],fun k x y hx hy=>?_⟩
  cases k with
  | zero =>
   simp at hx hy
   subst hx;subst hy
   exact⟨h1.1,fun d v _ hv=>h1.2 d v hv⟩
  | succ k=>exact h4 k x y (by simpa using hx) (by simpa using hy)
theorem Fs{an:jY}{l m:List (List (Option V))}(h:Bi an l m=true):yB (qV an) l m:=by
 unfold Bi at h
 split at h
 ·obtain⟨h1,h2⟩:=wT h
  exact⟨h1,fun k a b ha hb=>by simpa using h2 k a b ha hb⟩
 exact tw (ux h)
theorem mI{ρ:List Value}{α:Nat→AV}:∀ {l:List (List (Option V))}{T:List TF},vR ρ α l T↔(l.length=T.length∧∀ (k:Nat)(f:List (Option V))(t:TF),l[k]?=some f→T[k]?=some t→Fm ρ α f t.t)
 | [],[]=>by simp [vR]
 | f::l,t::T=>by
  simp only [vR,mI (l:=l) (T:=T),List.length_cons,Nat.add_right_cancel_iff]
  constructor
  ·rintro⟨h1,h2,h3⟩
   refine⟨h2,fun k g u hg hu=>?_⟩
   cases k with
   | zero=>simp at hg hu;subst hg;subst hu;exact h1
   | succ k=>exact h3 k g u (by simpa using hg) (by simpa using hu)
  rintro⟨h2,h3⟩
  exact⟨h3 0 f t rfl rfl,h2,fun k g u hg hu=>h3 (k+1) g u (by simpa using hg) (by simpa using hu)⟩
 | [],_::_=>by simp [vR]
 | _::_,[]=>by simp [vR]
theorem Bh{skip:Nat→Nat→Bool}{n:Nat}:∀ {l m:List V}{k:Nat},CP skip n k l m=true→m.length=l.length∧∀ (d:Nat)(v:V),skip n (k+d)=false→l[d]?=some v→m[d]?=some v
 | [],[],_,_=>⟨rfl,fun d v _ h=>by simp at h⟩
 | [],_::_,_,h=>by simp [CP]at h
 | _::_,[],_,h=>by simp [CP]at h
 | a::l,b::m,k,h=>by
  simp only [CP,Bool.and_eq_true,Bool.or_eq_true]at h
  obtain⟨h1,h2⟩:=Bh h.2
  refine⟨by simp [h1],fun d v hd hv=>?_⟩
  cases d with
  | zero =>
   simp at hv
   subst hv
   rcases h.1 with h3|h3
   ·rw [Nat.add_zero]at hd;rw [hd]at h3;cases h3
   rw [V.ka _ _ h3];rfl
  | succ d =>
   simpa using h2 d v (by rwa [show k+1+d=k+(d+1) by omega]) (by simpa using hv)
theorem kT{dead:List Nat}{skip:Nat→Nat→Bool}:∀ {l m:List (Option ae)}{k:Nat},iG dead skip k l m=true→∀ (n:Nat)(b:ae),l[n]?=some (some b)→k+n∉dead→∃ b',m[n]?=some (some b')∧b'.t=b.t∧b'.k=b.k∧b'.c.length=b.c.length∧∀ (j:Nat)(v:V),skip (k+n) j=false→b.c[j]?=some v→b'.c[j]?=some v
 | [],_,_,_,n,b,hn,_=>by simp at hn
 | none::l,[],k,h,n,b,hn,_=>by simp [iG]at h
 | some _::l,[],k,h,n,b,hn,_=>by simp [iG]at h
 | some _::l,none::m,k,h,n,b,hn,_=>by simp [iG]at h
 | none::l,c::m,k,h,n,b,hn,hd=>by
  simp only [iG]at h
  cases n with
  | zero=>simp at hn
  | succ n =>
   obtain⟨b',h1,h2⟩:=kT h n b (by simpa using hn) (by rwa [show k+1+n=k+(n+1) by omega])
   exact⟨b',by simpa using h1,by rwa [show k+1+n=k+(n+1) by omega]at h2⟩
 | some a::l,some c::m,k,h,n,b,hn,hd=>by
  simp only [iG,Bool.and_eq_true,Bool.or_eq_true,beq_iff_eq,decide_eq_true_eq]at h
  cases n with
  | zero =>
   simp at hn
   subst hn
   have h:=h.1.resolve_left fun hm=>hd (by simpa using hm)
   obtain⟨h3,h4⟩:=Bh h.2
   exact⟨c,rfl,h.1.1.symm,h.1.2.symm,h3,fun j v hj hv=>h4 j v (by rwa [Nat.zero_add]) hv⟩
  | succ n =>
   obtain⟨b',h1,h2⟩:=kT h.2 n b (by simpa using hn) (by rwa [show k+1+n=k+(n+1) by omega])
   exact⟨b',by simpa using h1,by rwa [show k+1+n=k+(n+1) by omega]at h2⟩
theorem Fb{b b':ae}(h:Nx b=some b'):b=b'∧(b'.k=.cells∨∃ k ag,b'.k=.mp k ag):=by
 unfold Nx at h
 split at h
 ·rename_i hk
  obtain rfl:b=b':=by simpa using h
  exact⟨rfl,.inl hk⟩
 ·rename_i k ag hk
  obtain rfl:b=b':=by simpa using h
  exact⟨rfl,.inr ⟨k,ag,hk⟩⟩
 cases h
theorem Cs{b b':ae}(h:jq b=some b'):b=b'∧b'.k=.cells:=by
 unfold jq at h
 split at h
 ·rename_i hk
  obtain rfl:b=b':=by simpa using h
  exact⟨rfl,hk⟩
 cases h
theorem CR{l m:List (Option ae)}(h:iG [] gR 0 l m=true){n:Nat}{b:ae}(hn:l[n]?=some (some b)):m[n]?=some (some b):=by
 obtain⟨b',h1,h2,h3,h4,h5⟩:=kT h n b hn (by simp)
 have:b'.c=b.c:=by
  apply List.ext_getElem?
  intro j
  cases hq:b.c[j]? with
  | some u=>exact h5 j u rfl hq
  | none=>rw [List.getElem?_eq_none_iff]at hq ⊢;omega
 obtain⟨c,t,k⟩:=b
 obtain⟨c',t',k'⟩:=b'
 simp only at h2 h3 this
 subst h2;subst h3;subst this
 exact h1
theorem Db{β γ:Type}{f:β→Option γ}:∀ {xs:List β}{ys:List γ},xs.mapM f=some ys→ys.length=xs.length∧∀ (j:Nat)(x:β),xs[j]?=some x→∃ v,ys[j]?=some v∧f x=some v:=by
 intro xs
 induction xs with
 | nil=>intro ys h;simp at h;subst h;exact⟨rfl,fun j x hx=>by simp at hx⟩
 | cons x xs ih =>
  intro ys h
  simp only [List.mapM_cons,Option.bind_eq_bind,Option.bind_eq_some_iff]at h
  obtain⟨v,hv,vs,hvs,h⟩:=h
  simp at h
  subst h
  obtain⟨h1,h2⟩:=ih hvs
  refine⟨by simp [h1],fun j y hy=>?_⟩
  cases j with
  | zero=>simp at hy;subst hy;exact⟨v,rfl,hv⟩
  | succ j=>simpa using h2 j y (by simpa using hy)
theorem ud{an:jY}{s:S}{vals:List V}(h:pb an s=some vals):vals.length=an.pos.length ∧
 ∀ (j:Nat) (p:Pos) (hk:HK),an.pos[j]?=some (p,hk)→∃ u v,p.get s=some u∧fF s hk u=some v∧vals[j]?=some v:=by
 obtain⟨h1,h2⟩:=Db h
 refine⟨h1,fun j p hk hj=>?_⟩
 obtain⟨v,hv,hf⟩:=h2 j _ hj
 obtain⟨u,hu,hh⟩:=Option.bind_eq_some_iff.1 hf
 exact⟨u,v,hu,hh,hv⟩
theorem qF{an:jY}{p:Pos}{j:Nat}(h:oC an p=some j):∃ hk,an.pos[j]?=some (p,hk):=by
 unfold oC at h
 obtain⟨hlt,h2,_⟩:=List.findIdx?_eq_some_iff_getElem.1 h
 have h2:(an.pos[j]).1=p:=by simpa using h2
 exact⟨(an.pos[j]).2,by rw [List.getElem?_eq_getElem hlt,← h2]⟩
theorem Dz{an:jY}{m base:Nat}{p:Pos}{u:V}(h:zR an m base p=some u):∃ (j:Nat)(hk:HK),an.pos[j]?=some (p,hk)∧u=hk.v m base j:=by
 obtain⟨j,hj,h2⟩:=Option.bind_eq_some_iff.1 h
 obtain⟨hk,hp⟩:=qF hj
 rw [hp]at h2
 exact⟨j,hk,hp,by simpa using h2.symm⟩
theorem FD{s:S}{u v:V}(h:fF s .one u=some v):v=u∧u.one s.sh=true:=by
 have h:(if u.one s.sh then some u else none)=some v:=by cases u<;>simpa [fF]using h
 split at h
 ·rename_i h1
  exact⟨by simpa using h.symm,h1⟩
 cases h
theorem IL{s:S}{n:Nat}{u v:V}(h:fF s (.ag n) u=some v):∃ cs,u=.a cs∧cs.length=n∧oX s.sh cs=true∧v=.a cs:=by
 cases u<;>simp [fF]at h
 exact⟨_,rfl,h.1.1,h.1.2,h.2.symm⟩
theorem join_some{α:Type}{x:Option (Option α)}{b:α}(h:x.join=some b):x=some (some b):=by
 cases x with
 | none=>simp at h
 | some o=>simp at h;rw [h]
theorem qb{s:S}{u v:V}(h:fF s .any u=some v):v=u:=by
 cases u<;>simp [fF]at h<;>exact h.symm
theorem xc{s:S}{sz:Nat}{u v:V}(h:fF s (.ext sz) u=some v):∃ m b,u=.row m∧s.hp[m]?=some (some b)∧b.k=.ext sz∧v=.cat b.c:=by
 cases u<;>simp only [fF,reduceCtorEq]at h
 split at h
 ·rename_i b hb
  split at h
  ·rename_i hk
   exact⟨_,b,rfl,join_some hb,hk,by simpa using h.symm⟩
  cases h
 cases h
theorem xd{s:S}{sz:Nat}{e:TypeId}{u v:V}(h:fF s (.row sz e) u=some v):∃ m b,u=.row m∧s.hp[m]?=some (some b)∧b.k=.row sz∧b.t=e∧v=.cat b.c:=by
 cases u<;>simp only [fF,reduceCtorEq]at h
 split at h
 ·rename_i b hb
  split at h
  ·rename_i hk
   exact⟨_,b,rfl,join_some hb,hk.1,hk.2,by simpa using h.symm⟩
  cases h
 cases h
theorem nT{an:jY}{m base:Nat}{p:Pos}(h:zR an m base p=none):(oC an p).isSome=false:=by
 cases hq:oC an p with
 | none=>rfl
 | some j =>
  obtain⟨hk,hp⟩:=qF hq
  simp [zR,hq,hp]at h
section
variable {C:Cx}{w0:eT}{ps:List (World→Prop)}{T:List TF}{ρ ρ0:List Value}{s s0:S}{a:Act}{W:World}{α:Nat→AV}
theorem iW(hg:Good ρ s)(hf:Fm ρ α s.fr a.tmps){d:Nat}{v:V}(h:gg s d=some v):a.tmps[d]?=some (v.den ρ α):=by
 have h1:s.ev (.tmp d)=some v:=h
 have h2:=nL hg hf h1
 unfold gg at h
 cases hq:s.fr[d]? with
 | none=>simp [hq,xl]at h
 | some o =>
  have hlt:d<a.tmps.size:=by rw [hf.1];exact(List.getElem?_eq_some_iff.1 hq).1
  rw [← h2]
  simp [Act.eval,Array.getD_eq_getD_getElem?,hlt]
theorem iu(hp:ρ0<+:ρ){hp0:List (Option ae)}{x:V}(hx:x.wf hp0 ρ0.length=true):x.den ρ α=x.den ρ0 α:=V.pU (hp:=hp0) (fun _ _=>rfl) hp x hx
theorem EP.fm{f g:List (Option V)}{tmps:Array Value}(h:EP f g)(hf:Fm ρ α g tmps):Fm ρ α f tmps:=⟨hf.1.trans h.1.symm,fun d v hv=>hf.2 d v (h.2 d v hv)⟩
theorem j0.kW:∀ {l m:List (List (Option V))}{T:List TF},j0 l m→vR ρ α m T→vR ρ α l T
 | [],[],_,_,h=>h
 | a::l,b::m,[],_,h=>h
 | a::l,b::m,t::T,h,hf=>⟨h.1.fm hf.1,j0.kW h.2 hf.2⟩
 | [],_::_,_,h,_=>h.elim
 | _::_,[],_,h,_=>h.elim
theorem LX{ρ ρ':List Value}{α:Nat→AV}{b b':ae}{k:Nat}(h2:b'.t=b.t)(h4:b'.k=b.k)(h3:ab ρ' α b.c=ab ρ α b'.c):b.ch ρ' α k=b'.ch ρ α k:=by
 unfold ae.ch ae.xs
 rw [h2,h4,h3]
theorem mq{ρ ρ':List Value}{α:Nat→AV}:∀ {l m:List (Option ae)}{k:Nat},(∀ (n:Nat)(b:ae),l[n]?=some (some b)→∃ b',m[n]?=some (some b')∧b'.t=b.t∧b'.k=b.k∧ab ρ' α b.c=ab ρ α b'.c)→List.Sublist (aN ρ' α k l) (aN ρ α k m)
 | [],_,_,_=>by simp [aN]
 | none::l,[],k,h=>by
  have ih:List.Sublist (aN ρ' α (k+1) l) (aN ρ α (k+1) []):=mq fun n b hb=>by
   obtain⟨b',h1,_⟩:=h (n+1) b (by simpa using hb)
   simp at h1
  simpa [aN]using ih
 | some b::l,[],k,h=>by
  obtain⟨b',h1,_⟩:=h 0 b rfl
  simp at h1
 | none::l,c::m,k,h=>by
  have ih:List.Sublist (aN ρ' α (k+1) l) (aN ρ α (k+1) m):=mq fun n b hb=>by simpa using h (n+1) b (by simpa using hb)
  cases c with
  | none=>simpa [aN]using ih
  | some c =>
   unfold aN
   cases c.ch ρ α k with
   | none=>simpa using ih
   | some e=>simpa using ih.cons _
 | some b::l,c::m,k,h=>by
  have ih:List.Sublist (aN ρ' α (k+1) l) (aN ρ α (k+1) m):=mq fun n b hb=>by simpa using h (n+1) b (by simpa using hb)
  obtain⟨b',h1,h2,h4,h3⟩:=h 0 b rfl
  simp at h1
  subst h1
  unfold aN
  rw [LX h2 h4 h3]
  exact(List.Sublist.refl _).append ih
theorem iq{ρ:List Value}{α:Nat→AV}:∀ {hp:List (Option ae)}{k:Nat}{e:Ch},e∈aN ρ α k hp→∃ (n:Nat)(b:ae),hp[n]?=some (some b)∧b.ch ρ α (k+n)=some e
 | [],_,_,h=>by simp [aN]at h
 | none::l,k,e,h=>by
  unfold aN at h
  obtain⟨n,b,h1,h2⟩:=iq h
  exact⟨n+1,b,by simpa using h1,by rwa [show k+(n+1)=k+1+n by omega]⟩
 | some b::l,k,e,h=>by
  unfold aN at h
  rcases List.mem_append.1 h with h|h
  ·exact⟨0,b,rfl,by simpa [Option.mem_toList]using h⟩
  obtain⟨n,b',h1,h2⟩:=iq h
  exact⟨n+1,b',by simpa using h1,by rwa [show k+(n+1)=k+1+n by omega]⟩
theorem nG{ρ:List Value}{α:Nat→AV}:∀ {hp:List (Option ae)}{k:Nat},(∀ (n1 n2:Nat)(b1 b2:ae)(e1 e2:Ch),n1<n2→hp[n1]?=some (some b1)→b1.ch ρ α (k+n1)=some e1→hp[n2]?=some (some b2)→b2.ch ρ α (k+n2)=some e2→e1.id≠e2.id)→((aN ρ α k hp).map (·.id)).Nodup
 | [],_,_=>by simp [aN]
 | none::l,k,h=>by
  unfold aN
  exact nG fun n1 n2 b1 b2 e1 e2 hlt h1 h2 h3 h4=>h (n1+1) (n2+1) b1 b2 e1 e2 (by omega) (by simpa using h1) (by rwa [show k+(n1+1)=k+1+n1 by omega]) (by simpa using h3) (by rwa [show k+(n2+1)=k+1+n2 by omega])
 | some b::l,k,h=>by
  unfold aN
  have ih:((aN ρ α (k+1) l).map (·.id)).Nodup:=nG fun n1 n2 b1 b2 e1 e2 hlt h1 h2 h3 h4=>h (n1+1) (n2+1) b1 b2 e1 e2 (by omega) (by simpa using h1) (by rwa [show k+(n1+1)=k+1+n1 by omega]) (by simpa using h3) (by rwa [show k+(n2+1)=k+1+n2 by omega])
  cases hb:b.ch ρ α k with
  | none=>simpa using ih
  | some e =>
   simp only [Option.toList_some,List.cons_append,List.nil_append,List.map_cons]
   refine List.nodup_cons.2 ⟨fun hm=>?_,ih⟩
   obtain⟨e2,he2,hid⟩:=List.mem_map.1 hm
   obtain⟨n,b2,h1,h2⟩:=iq he2
   exact h 0 (n+1) b b2 e e2 (by omega) rfl (by rwa [Nat.add_zero]) (by simpa using h1) (by rwa [show k+(n+1)=k+1+n by omega]) hid.symm
theorem Lm{hs hs':List Ch}{os:List Ow}{ps:List (World→Prop)}(h:St w0 hs os ps W)(hm:∀ e∈hs',e∈hs)(hn:(hs'.map (·.id)).Nodup):St w0 hs' os ps W:=by
 have hmm:∀ b∈hs'.map (·.id),b∈hs.map (·.id):=fun b hb=>by
  obtain⟨e,he,rfl⟩:=List.mem_map.1 hb
  exact List.mem_map.2 ⟨e,hm e he,rfl⟩
 have hnd:=List.nodup_append.1 h.nodup
 refine⟨h.bT,fun e he=>h.dt e (hm e he),h.own,List.nodup_append.2 ⟨hn,hnd.2.1,fun a ha b hb=>hnd.2.2 a (hmm a ha) b hb⟩,fun p hp W' hW=>h.pers p hp W' ⟨hW.size,fun b hb hnm=>hW.block b hb fun hq=>hnm ?_⟩⟩
 rcases List.mem_append.1 hq with hq|hq
 ·exact List.mem_append.2 (.inl (hmm b hq))
 exact List.mem_append.2 (.inr hq)
theorem nD.re{α α':Nat→AV}{ok ok':Nat→Bool}:∀ {T:List TF}{lps:List (Nat×LS)},nD α ok lps T→(∀ q∈lps,ok' q.1=true∧α' q.1=α q.1)→nD α' ok' lps T
 | [],_,h,_=>h
 | t::T,lps,h,hq=>by
  unfold nD at h ⊢
  refine⟨h.1,?_⟩
  have h:=h.2
  split at h
  ·exact nD.re h hq
  cases lps with
  | nil=>exact h.elim
  | cons q lps' =>
   obtain⟨⟨a,b,c⟩,d⟩:=h
   obtain⟨h1,h2⟩:=hq q (List.mem_cons_self ..)
   exact⟨⟨h1,by rw [h2];exact b,c⟩,nD.re d fun q' hq'=>hq q' (List.mem_cons_of_mem _ hq')⟩
theorem nD.ok{α:Nat→AV}{ok:Nat→Bool}:∀ {T:List TF}{lps:List (Nat×LS)},nD α ok lps T→∀ q∈lps,ok q.1=true
 | [],lps,h,q,hq=>by
  have h:lps=[]:=h
  subst h;cases hq
 | t::T,lps,h,q,hq=>by
  unfold nD at h
  have h:=h.2
  split at h
  ·exact nD.ok h q hq
  cases lps with
  | nil=>cases hq
  | cons q' lps' =>
   obtain⟨⟨a,b,c⟩,d⟩:=h
   rcases List.mem_cons.1 hq with rfl|hq
   ·exact a
   exact nD.ok d q hq
def vQ(w0:eT)(ρ':List Value)(α':Nat→AV)(n:Nat)(b:ae)(ρ:List Value)(α:Nat→AV)(n':Nat)(b':ae):Prop :=
 (b.ch ρ' α' n=b'.ch ρ α n')∧(b'.bo ρ α n'→b.bo ρ' α' n)∧b.ex w0 ρ' α' n=b'.ex w0 ρ α n'
theorem E3{ρ':List Value}{α':Nat→AV}{n n':Nat}{b b':ae}(hα:α' n=α n')(ht:b'.t=b.t)(hk:b'.k=b.k)(hd:ab ρ' α' b.c=ab ρ α b'.c):vQ w0 ρ' α' n b ρ α n' b':=by
 refine⟨?_,?_,?_⟩
 ·unfold ae.ch ae.xs;rw [hα,ht,hk,hd]
 ·intro h;unfold ae.bo ae.xs at h ⊢;rw [hα,hd];rwa [hk]at h
 unfold ae.ex ae.xs;rw [hα,hk,hd,ht]
theorem sP{an:jY}{ws:List Nat}{vals:List V}(hI:ay w0 ps T ρ s a W α)(hp:ρ0<+:ρ)(hg:Good ρ0 s0)(hw:s0.Wf ρ0.length)(hM:vU an ws s0 s)(hv:pb an s=some vals)(hno:mS an s0 s=true) :
 Inv w0 ps T (ρ0++ab ρ α vals) (dx an ws s0) a W∧Sh.dC (an.pos.map fun e=>e.2.sh) (ab ρ α vals)=true:=by
 obtain⟨hl,hs⟩:=ud hv
 simp only [mS,Bool.and_eq_true,decide_eq_true_eq]at hno
 obtain⟨hlen0,hno⟩:=hno
 have hno':∀ i,i<an.pos.length→j3 an i=true→∃ n,dr an s i=some n∧(s0.hp.length≤n∨n∈eZ an s0)∧∀ j,j<an.pos.length→i≠j→j3 an j=true→dr an s j≠some n:=by
  intro i hi hr
  have:=List.all_eq_true.1 hno i (List.mem_range.2 hi)
  rw [hr]at this
  simp only [Bool.not_true,Bool.false_or]at this
  split at this
  ·rename_i n hn
   simp only [Bool.and_eq_true,Bool.or_eq_true,decide_eq_true_eq]at this
   refine⟨n,hn,this.1.imp id fun h=>by simpa using h,fun j hj hij hrj=>?_⟩
   have h2:=List.all_eq_true.1 this.2 j (List.mem_range.2 hj)
   rw [hrj]at h2
   simp only [Bool.or_eq_true,decide_eq_true_eq,Bool.not_true,Bool.false_eq_true,or_false,Bool.not_eq_true',beq_eq_false_iff_ne]at h2
   exact h2.resolve_left hij
  cases this
 have hxl:(ab ρ α vals).length=an.pos.length:=by rw [aj,hl]
 have hpx:ρ0<+:ρ0++ab ρ α vals:=⟨_,rfl⟩
 have hlen:ρ0.length≤(ρ0++ab ρ α vals).length:=by simp
 have hsh:s0.sh.length=ρ0.length:=hg.len
 let α':Nat→AV:=fun n=>if n<s0.hp.length then α n else match dr an s (n-s0.hp.length)with
  | some n'=>α n'
  | none=>α n
 have hα0:∀ n,n<s0.hp.length→α' n=α n:=fun n hn=>if_pos hn
 have hα1:∀ j n',dr an s j=some n'→α' (s0.hp.length+j)=α n':=fun j n' h=>by
  show(if s0.hp.length+j<s0.hp.length then _ else _)=_
  rw [if_neg (by omega),Nat.add_sub_cancel_left,h]
 have hαl:∀ n,lv s0.ln n=true→α' n=α n:=fun n hn=>by
  obtain⟨b,hb⟩:=cN.1 hn
  exact hα0 n (by rw [hlen0];exact(List.getElem?_eq_some_iff.1 hb).1)
 have hlv:∀ n,lv s0.ln n=true→lv (s0.ln++mT an s0.sh.length) n=true:=fun n hn=>by
  obtain⟨b,hb⟩:=cN.1 hn
  exact cN.2 ⟨b,by rw [List.getElem?_append_left (List.getElem?_eq_some_iff.1 hb).1];exact hb⟩
 have hold:∀ (x:V),x.wf s0.ln ρ0.length=true→x.den (ρ0++ab ρ α vals) α'=x.den ρ α:=fun x hx=>by
  rw [V.pU (hp:=s0.ln) hαl hpx x hx,iu hp hx]
 have holdL:∀ (l:List V),dc s0.ln ρ0.length l=true→ab (ρ0++ab ρ α vals) α' l=ab ρ α l:=fun l hx=>by
  rw [aw _ _ l,aw _ _ l]
  exact List.map_congr_left fun x hm=>hold x (dA hx x hm)
 have hxj:∀ (j:Nat) (v:V),vals[j]?=some v→(ρ0++ab ρ α vals).getD (s0.sh.length+j) undef=v.den ρ α:=fun j v hj=>by
  have h2:=du (ρ:=ρ) (α:=α) hj
  rw [hsh,List.getD_eq_getElem?_getD,List.getElem?_append_right (by omega),Nat.add_sub_cancel_left,h2]
  rfl
 have hpos:∀ (j:Nat) (p:Pos) (hk:HK),an.pos[j]?=some (p,hk)→∃ u v,p.get s=some u∧fF s hk u=some v∧vals[j]?=some v∧hk.sh.fit (v.den ρ α)=true∧(hk.v s0.sh.length s0.hp.length j).den (ρ0++ab ρ α vals) α'=u.den ρ α∧(hk.named=true→∃ n,u=.row n∧dr an s j=some n):=by
  intro j p hk hj
  obtain⟨u,v,hu,hh,hv2⟩:=hs j p hk hj
  refine⟨u,v,hu,hh,hv2,?_⟩
  have hx:=hxj j v hv2
  cases hk with
  | one =>
   obtain⟨rfl,h1⟩:=FD hh
   have hf:Sh.one.fit (v.den ρ α)=true:=by simp only [Sh.fit];exact nQ hI.good (List.prefix_refl _) α h1
   exact⟨hf,iv _ _ _ .one [] _ hx hf,nofun⟩
  | ag n =>
   obtain⟨cs,rfl,h1,h2,rfl⟩:=IL hh
   have hf:(Sh.ag n).fit ((V.a cs).den ρ α)=true:=by
    have h2:=pw hI.good (List.prefix_refl _) α h2
    simp only [Sh.fit,V.den,aj,h1,Bool.and_eq_true,beq_iff_eq]
    exact⟨trivial,by simpa using h2⟩
   exact⟨hf,iv _ _ _ (.ag n) [] _ hx hf,nofun⟩
  | ext sz =>
   obtain⟨m,b,rfl,hb,hbk,rfl⟩:=xc hh
   have hnm:dr an s j=some m:=by simp [dr,hj,HK.named,hu,nameOf]
   exact⟨rfl,by simp only [HK.v,V.den];rw [hα1 j m hnm],fun _=>⟨m,rfl,hnm⟩⟩
  | row sz e =>
   obtain⟨m,b,rfl,hb,hbk,hbt,rfl⟩:=xd hh
   have hnm:dr an s j=some m:=by simp [dr,hj,HK.named,hu,nameOf]
   exact⟨rfl,by simp only [HK.v,V.den];rw [hα1 j m hnm],fun _=>⟨m,rfl,hnm⟩⟩
  | any =>
   obtain rfl:=qb hh
   exact⟨rfl,iv _ _ _ .any [] _ hx rfl,nofun⟩
 have hposV:∀ (p:Pos) (u':V),zR an s0.sh.length s0.hp.length p=some u'→∃ u,p.get s=some u∧u'.den (ρ0++ab ρ α vals) α'=u.den ρ α∧u'.wf (s0.ln++mT an s0.sh.length) (ρ0++ab ρ α vals).length=true:=by
  intro p u' h
  obtain⟨j,hk,hj,rfl⟩:=Dz h
  obtain⟨u,v,h1,h2,h3,h4,h5,h6⟩:=hpos j p hk hj
  refine⟨u,h1,h5,?_⟩
  have hjl:j<an.pos.length:=(List.getElem?_eq_some_iff.1 hj).1
  have hlvn:hk.named=true→lv (s0.ln++mT an s0.sh.length) (s0.hp.length+j)=true:=fun hn=>by
   cases hk<;>simp [HK.named]at hn
   ·exact cN.2 ⟨_,by rw [hlen0,List.getElem?_append_right (by omega),Nat.add_sub_cancel_left];simp [mT,List.getElem?_mapIdx,hj,HK.dt];rfl⟩
   exact cN.2 ⟨_,by rw [hlen0,List.getElem?_append_right (by omega),Nat.add_sub_cancel_left];simp [mT,List.getElem?_mapIdx,hj,HK.dt];rfl⟩
  cases hk with
  | one=>simp only [HK.v,Sh.exp,V.wf,decide_eq_true_eq,List.length_append,hxl];omega
  | ag n =>
   simp only [HK.v,Sh.exp,V.wf]
   refine jO fun x hx=>?_
   obtain⟨i,_,rfl⟩:=List.mem_map.1 hx
   simp only [V.wf,decide_eq_true_eq,List.length_append,hxl];omega
  | ext sz=>exact hlvn rfl
  | row sz e=>exact hlvn rfl
  | any=>simp only [HK.v,Sh.exp,V.wf,decide_eq_true_eq,List.length_append,hxl];omega
 have hxlen:∀ j,j<an.pos.length→s0.sh.length+j<(ρ0++ab ρ α vals).length:=fun j hj=>by simp only [List.length_append,hxl];omega
 have hnew:∀ (j:Nat) (b:ae),(mT an s0.sh.length)[j]?=some (some b)→∃ n' b',dr an s j=some n'∧s.hp[n']?=some (some b')∧vQ w0 (ρ0++ab ρ α vals) α' (s0.hp.length+j) b ρ α n' b'∧b.c=[.x (s0.sh.length+j) []]∧j<an.pos.length∧(b.own=true→j3 an j=true):=by
  intro j b hb
  simp only [mT,List.getElem?_mapIdx,Option.map_eq_some_iff]at hb
  obtain⟨⟨p,hk⟩,hj,hb⟩:=hb
  obtain⟨u,v,h1,h2,h3,h4,h5,h6⟩:=hpos j p hk hj
  have hx:=hxj j v h3
  have hjl:j<an.pos.length:=(List.getElem?_eq_some_iff.1 hj).1
  have key:∀ (n':Nat) (b':ae),dr an s j=some n'→s.hp[n']?=some (some b')→v=.cat b'.c→b.c=[.x (s0.sh.length+j) []]→(b.k=b'.k∧((∃ sz,b.k=.ext sz)∨∃ sz,b.k=.row sz∧b.t=b'.t))→vQ w0 (ρ0++ab ρ α vals) α' (s0.hp.length+j) b ρ α n' b':=by
   intro n' b' hn hb' hvv hc hkk
   subst hvv
   have hxs:b.xs (ρ0++ab ρ α vals) α'=b'.xs ρ α:=by
    unfold ae.xs
    rw [hc]
    simp only [ab,V.den,List.foldl_nil,hx,List.flatMap_cons,List.flatMap_nil,aa,List.append_nil]
   have hα2:=hα1 j n' hn
   refine⟨?_,?_,?_⟩
   ·unfold ae.ch
    rw [← hkk.1,hα2,hxs]
    rcases hkk.2 with ⟨sz,e⟩|⟨sz,e,e2⟩<;>rw [e]
    rw [e2]
   ·intro hr
    unfold ae.bo at hr ⊢
    rw [hα2,hxs]
    rwa [← hkk.1]at hr
   unfold ae.ex
   rw [← hkk.1,hα2,hxs]
   rcases hkk.2 with ⟨sz,e⟩|⟨sz,e,_⟩<;>rw [e]
  cases hk with
  | one=>simp [HK.dt]at hb
  | ag n=>simp [HK.dt]at hb
  | any=>simp [HK.dt]at hb
  | ext sz =>
   obtain rfl:b=⟨[.x (s0.sh.length+j) []],0,.ext sz⟩:=by simpa [HK.dt]using hb.symm
   obtain⟨n,b',rfl,hb',hbk,rfl⟩:=xc h2
   obtain⟨n2,e2,hn⟩:=h6 rfl
   cases e2
   exact⟨n,b',hn,hb',key n b' hn hb' rfl rfl ⟨hbk.symm,.inl ⟨sz,rfl⟩⟩,rfl,hjl,nofun⟩
  | row sz e =>
   obtain rfl:b=⟨[.x (s0.sh.length+j) []],e,.row sz⟩:=by simpa [HK.dt]using hb.symm
   obtain⟨n,b',rfl,hb',hbk,hbt,rfl⟩:=xd h2
   obtain⟨n2,e2,hn⟩:=h6 rfl
   cases e2
   exact⟨n,b',hn,hb',key n b' hn hb' rfl rfl ⟨hbk.symm,.inr ⟨sz,rfl,hbt.symm⟩⟩,rfl,hjl,fun _=>by simp [j3,hj,HK.JO]⟩
 have holdB:∀ (n:Nat) (b:ae),(nN an s0.sh.length s0.hp.length (eZ an s0) s0.hp)[n]?=some (some b)→n<s0.hp.length∧(b=bA∨(n∉eZ an s0∧dc (s0.ln++mT an s0.sh.length) (ρ0++ab ρ α vals).length b.c=true∧∃ b',s.hp[n]?=some (some b')∧vQ w0 (ρ0++ab ρ α vals) α' n b ρ α n b')):=by
  intro n b hb
  simp only [nN,List.getElem?_mapIdx,Option.map_eq_some_iff]at hb
  obtain⟨o,ho,b0,hb0,hb⟩:=hb
  subst hb0
  have hnl:n<s0.hp.length:=(List.getElem?_eq_some_iff.1 ho).1
  refine⟨hnl,?_⟩
  split at hb
  ·exact .inl hb.symm
  rename_i hdead
  right
  have hnd:n∉eZ an s0:=by simpa using hdead
  obtain⟨b',h4,h5,h5k,h6,h7⟩:=hM.hp n b0 ho hnd
  subst hb
  have hw0:=hw.hp b0 (List.mem_of_getElem? ho)
  refine⟨hnd,jO fun v' hv'=>?_,b',h4,E3 (hα0 n hnl) h5 h5k ?_⟩
  ·obtain⟨k,hk⟩:=List.mem_iff_getElem?.1 hv'
   simp only [List.getElem?_mapIdx,Option.map_eq_some_iff]at hk
   obtain⟨u,hu,hk⟩:=hk
   split at hk
   ·rename_i u' hu'
    subst hk
    obtain⟨_,_,_,h⟩:=hposV _ _ hu'
    exact h
   subst hk
   exact V.ej hlv hlen _ (dA hw0 _ (List.mem_of_getElem? hu))
  apply List.ext_getElem?
  intro k
  rw [aw (ρ0++ab ρ α vals),aw ρ α b'.c,List.getElem?_map,List.getElem?_map,List.getElem?_mapIdx]
  cases hq:b0.c[k]? with
  | none =>
   have:b'.c[k]?=none:=by rw [List.getElem?_eq_none_iff]at *;omega
   rw [this];rfl
  | some u =>
   simp only [Option.map_some]
   split
   ·rename_i u' hu'
    obtain⟨u2,g1,g2,_⟩:=hposV _ _ hu'
    rw [g2]
    simp only [Pos.get,h4,Option.join_some,Option.bind_some]at g1
    obtain⟨b2,hb2,g3⟩:=Option.bind_eq_some_iff.1 g1
    obtain⟨rfl,_⟩:=Fb hb2
    rw [g3];rfl
   rename_i hpn
   have hsk:BQ an n k=false:=nT hpn
   rw [h7 k u hsk hq]
   simp only [Option.map_some]
   rw [hold u (dA hw0 _ (List.mem_of_getElem? hq))]
 have happ:∀ (l:List (Option ae)) (n:Nat) (b:ae),l.length=s0.hp.length→(l++mT an s0.sh.length)[n]?=some (some b)→(n<s0.hp.length∧l[n]?=some (some b))∨∃ j,n=s0.hp.length+j∧(mT an s0.sh.length)[j]?=some (some b):=by
  intro l n b hll h
  rw [List.getElem?_append]at h
  split at h
  ·rename_i hlt;exact .inl ⟨by omega,h⟩
  rename_i hge;exact .inr ⟨n-l.length,by omega,h⟩
 have hfl:(nN an s0.sh.length s0.hp.length (eZ an s0) s0.hp).length=s0.hp.length:=by simp [nN]
 have hall:∀ (n:Nat) (b:ae),(dx an ws s0).hp[n]?=some (some b)→(b.ch (ρ0++ab ρ α vals) α' n=none∧b.bo (ρ0++ab ρ α vals) α' n∧b.own=true∧n<s0.hp.length)∨∃ n' b',s.hp[n']?=some (some b')∧vQ w0 (ρ0++ab ρ α vals) α' n b ρ α n' b'∧((n<s0.hp.length∧n'=n∧n∉eZ an s0)∨∃ j,n=s0.hp.length+j∧j<an.pos.length∧dr an s j=some n'∧(b.own=true→j3 an j=true)):=by
  intro n b hb
  rcases happ _ n b hfl hb with ⟨hlt,h⟩|⟨j,rfl,h⟩
  ·obtain⟨_,h2⟩:=holdB n b h
   rcases h2 with rfl|⟨h2,_,b',h3,h4⟩
   ·exact .inl ⟨rfl,trivial,rfl,hlt⟩
   exact .inr ⟨n,b',h3,h4,.inl ⟨hlt,rfl,h2⟩⟩
  obtain⟨n',b',h1,h2,h3,_,h4,h5⟩:=hnew j b h
  exact .inr ⟨n',b',h2,h3,.inr ⟨j,rfl,h4,h1,h5⟩⟩
 have hwh:EW (s0.ln++mT an s0.sh.length) (ρ0++ab ρ α vals).length (dx an ws s0).hp:=by
  intro b hb
  obtain⟨n,hn⟩:=List.mem_iff_getElem?.1 hb
  rcases happ _ n b hfl hn with ⟨hlt,h⟩|⟨j,rfl,h⟩
  ·obtain⟨_,h2⟩:=holdB n b h
   rcases h2 with rfl|⟨_,h2,_⟩
   ·rfl
   exact h2
  obtain⟨n',b',_,_,_,hc,h4,_⟩:=hnew j b h
  rw [hc]
  simp only [dc,V.wf,Bool.and_true,decide_eq_true_eq]
  exact hxlen j h4
 have hos:dp a (dx an ws s0) T=dp a s T:=by show fG a.defers++eu s0.lps T=_;rw [hM.lps];rfl
 refine⟨⟨α',⟨hI.defers.1,by show nD α' _ s0.lps T;rw [hM.lps];exact hI.defers.2.re fun q hq=>⟨hlv _ (hM.lpl q (by rw [hM.lps];exact hq)),hαl _ (hM.lpl q (by rw [hM.lps];exact hq))⟩⟩,⟨?_,?_,?_⟩,⟨?_,?_,hwh,?_⟩,⟨?_,?_⟩,?_,?_,?_,?_⟩,?_⟩
 ·simp [dx,hsh,hxl]
 ·intro i h hi
  simp only [dx]at hi
  by_cases hlt:i<s0.sh.length
  ·rw [List.getElem?_append_left hlt]at hi
   have:=hg.fit i h hi
   rwa [List.getD_eq_getElem?_getD,List.getElem?_append_left (by omega),← List.getD_eq_getElem?_getD]
  rw [List.getElem?_append_right (by omega),List.getElem?_map,Option.map_eq_some_iff]at hi
  obtain⟨⟨p,hk⟩,hj,rfl⟩:=hi
  obtain⟨u,v,h1,h2,h3,h4,_⟩:=hpos _ p hk hj
  have:=hxj _ v h3
  rw [show s0.sh.length+(i-s0.sh.length)=i by omega]at this
  rw [this]
  exact h4
 ·intro e he
  obtain⟨h3,h4⟩:=hg.kn e he
  refine⟨by simp;omega,?_⟩
  rwa [List.getD_eq_getElem?_getD,List.getElem?_append_left h3,← List.getD_eq_getElem?_getD]
 ·intro v hv'
  obtain⟨d,hd⟩:=List.mem_iff_getElem?.1 hv'
  simp only [dx,pi,List.getElem?_mapIdx,Option.map_eq_some_iff]at hd
  obtain⟨o,ho,hd⟩:=hd
  split at hd
  ·rename_i u' hu'
   obtain rfl:u'=v:=by simpa using hd
   obtain⟨_,_,_,h⟩:=hposV _ _ hu'
   exact h
  split at hd
  ·cases hd
  subst hd
  exact V.ej hlv hlen v (hw.fr v (List.mem_of_getElem? ho))
 ·intro f hf
  simp only [dx,mK]at hf
  split at hf
  ·obtain⟨k,hk⟩:=List.mem_iff_getElem?.1 hf
   simp only [List.getElem?_mapIdx,Option.map_eq_some_iff]at hk
   obtain⟨f0,hf0,rfl⟩:=hk
   intro v hv'
   obtain⟨d,hd⟩:=List.mem_iff_getElem?.1 hv'
   simp only [List.getElem?_mapIdx,Option.map_eq_some_iff]at hd
   obtain⟨o,ho,hd⟩:=hd
   split at hd
   ·rename_i u' hu'
    obtain rfl:u'=v:=by simpa using hd
    obtain⟨_,_,_,h⟩:=hposV _ _ hu'
    exact h
   split at hd
   ·cases hd
   subst hd
   exact V.ej hlv hlen v (hw.stk f0 (List.mem_of_getElem? hf0) v (List.mem_of_getElem? ho))
  exact(hw.stk f hf).mono hlv hlen
 ·intro b hb
  obtain⟨n,hn⟩:=List.mem_iff_getElem?.1 hb
  rcases happ _ n b (by rw [hlen0]) hn with ⟨hlt,h⟩|⟨j,rfl,h⟩
  ·exact bJ hlv hlen _ (hw.ln b (List.mem_of_getElem? h))
  obtain⟨n',b',_,_,_,hc,h4,_⟩:=hnew j b h
  rw [hc]
  simp only [dc,V.wf,Bool.and_true,decide_eq_true_eq]
  exact hxlen j h4
 ·simp [dx,pi,hI.fm.1,hM.fr.1]
 ·intro d v hd
  simp only [dx,pi,List.getElem?_mapIdx,Option.map_eq_some_iff]at hd
  obtain⟨o,ho,hd⟩:=hd
  split at hd
  ·rename_i u' hu'
   obtain rfl:u'=v:=by simpa using hd
   obtain⟨u,g1,g2,_⟩:=hposV _ _ hu'
   rw [iW hI.good hI.fm g1,g2]
  rename_i hns
  split at hd
  ·cases hd
  rename_i hnw
  subst hd
  have hsk:yi an ws d=false:=by
   unfold yi
   rw [nT hns]
   simpa using hnw
  have:=hI.fm.2 d v (hM.fr.2 d v hsk ho)
  rw [this,hold v (hw.fr v (List.mem_of_getElem? ho))]
 ·obtain⟨q1,q2⟩:=hM.stk
  obtain⟨q3,q4⟩:=mI.1 hI.kW
  show vR (ρ0++ab ρ α vals) α' (mK an s0.sh.length s0.hp.length s0.stk) T
  have hat:∀ (k:Nat) (f0:List (Option V)) (t:TF),s0.stk[k]?=some f0→T[k]?=some t→∃ f1,s.stk[k]?=some f1∧Fm ρ α f1 t.t∧f0.length=f1.length∧∀ (d:Nat) (v:V),qV an k d=false→f0[d]?=some (some v)→f1[d]?=some (some v):=by
   intro k f0 t h1 h2
   have hk:k<s.stk.length:=by rw [← q1];exact(List.getElem?_eq_some_iff.1 h1).1
   have h3:=List.getElem?_eq_getElem hk
   exact⟨_,h3,q4 k _ t h3 h2,q2 k f0 _ h1 h3⟩
  refine mI.2 ?_
  unfold mK
  split
  ·rename_i hF
   refine⟨by simp [q1,q3],fun k f t hf ht=>?_⟩
   simp only [List.getElem?_mapIdx,Option.map_eq_some_iff]at hf
   obtain⟨f0,hf0,rfl⟩:=hf
   obtain⟨f1,h1,h2,h3,h4⟩:=hat k f0 t hf0 ht
   refine⟨by simp [h2.1,h3],fun d v hd=>?_⟩
   simp only [List.getElem?_mapIdx,Option.map_eq_some_iff]at hd
   obtain⟨o,ho,hd⟩:=hd
   split at hd
   ·rename_i u' hu'
    obtain rfl:u'=v:=by simpa using hd
    obtain⟨u,g1,g2,_⟩:=hposV _ _ hu'
    simp only [Pos.get,h1,Option.bind_some]at g1
    rw [g2]
    exact h2.2 d u (join_some g1)
   rename_i hns
   split at hd
   ·cases hd
   rename_i hng
   subst hd
   have hsk:qV an k d=false:=by
    unfold qV
    rw [nT hns]
    simp only [Bool.false_or]
    simp at hng
    simp [hng]
   rw [h2.2 d v (h4 d v hsk ho),hold v (hw.stk f0 (List.mem_of_getElem? hf0) v (List.mem_of_getElem? ho))]
  rename_i hF
  refine⟨by rw [q1,q3],fun k f t hf ht=>?_⟩
  obtain⟨f1,h1,h2,h3,h4⟩:=hat k f t hf ht
  refine⟨by rw [h2.1,h3],fun d v hd=>?_⟩
  rw [h2.2 d v (h4 d v (by simp at hF;simp [qV,hF]) hd),hold v (hw.stk f (List.mem_of_getElem? hf) v (List.mem_of_getElem? hd))]
 ·-- the blocks
  have hnd:((aN ρ α 0 s.hp).map (·.id)).Nodup:=(List.nodup_append.1 hI.st.nodup).1
  rw [hos]
  refine jd (Lm hI.st (fun e he=>?_) (nG fun n1 n2 b1 b2 e1 e2 hlt h1 h2 h3 h4=>?_)) (fM fun p hpm=>?_)
  ·obtain⟨n,b,h1,h2⟩:=iq he
   rw [Nat.zero_add]at h2
   rcases hall n b h1 with ⟨h3,_⟩|⟨n',b',h3,h4,_⟩
   ·rw [h3]at h2;cases h2
   exact cU h3 (by rw [Nat.zero_add,← h4.1];exact h2)
  ·rw [Nat.zero_add]at h2 h4
   have own_of:∀ {b:ae} {n:Nat} {e:Ch},b.ch (ρ0++ab ρ α vals) α' n=some e→b.own=true:=fun {b n e} h=>by
    unfold ae.ch at h
    unfold ae.own
    cases hk:b.k<;>simp [hk]at h ⊢
   rcases hall n1 b1 h1 with ⟨h5,_⟩|⟨m1,c1,h5,h6,h7⟩
   ·rw [h5]at h2;cases h2
   rcases hall n2 b2 h3 with ⟨h8,_⟩|⟨m2,c2,h8,h9,h10⟩
   ·rw [h8]at h4;cases h4
   rw [h6.1]at h2
   rw [h9.1]at h4
   refine uu hnd ?_ h5 h2 h8 h4
   rcases h7 with ⟨q1,rfl,q2⟩|⟨j1,q1,q2,q3,q4⟩
   ·rcases h10 with ⟨r1,rfl,r2⟩|⟨j2,r1,r2,r3,r4⟩
    ·omega
    rintro rfl
    obtain⟨n,t1,t2,_⟩:=hno' j2 r2 (r4 (own_of (h9.1.trans h4)))
    rw [r3]at t1
    obtain rfl:m1=n:=by simpa using t1
    rcases t2 with t2|t2
    ·omega
    exact q2 t2
   rcases h10 with ⟨r1,rfl,r2⟩|⟨j2,r1,r2,r3,r4⟩
   ·omega
   rintro rfl
   obtain⟨n,t1,_,t3⟩:=hno' j1 q2 (q4 (own_of (h6.1.trans h2)))
   rw [q3]at t1
   obtain rfl:m1=n:=by simpa using t1
   exact t3 j2 r2 (by omega) (r4 (own_of (h9.1.trans h4))) r3
  obtain⟨n,b,h1,h2⟩:=cB.1 hpm
  rw [Nat.zero_add]at h2
  rcases hall n b h1 with ⟨_,_,h3,_⟩|⟨n',b',h3,h4,_⟩
  ·rw [ae.kj h3]at h2;cases h2
  exact cB.2 ⟨n',b',h3,by rw [Nat.zero_add,← h4.2.2];exact h2⟩
 ·intro n b hb
  refine⟨?_,?_⟩
  ·rcases happ _ n b hfl hb with ⟨hlt,h⟩|⟨j,rfl,h⟩
   ·simp only [nN,List.getElem?_mapIdx,Option.map_eq_some_iff]at h
    obtain⟨o,ho,b0,hb0,_⟩:=h
    subst hb0
    exact hlv n (hM.live n b0 ho)
   exact cN.2 ⟨b,by show(s0.ln++mT an s0.sh.length)[_]?=_;rw [hlen0,List.getElem?_append_right (by omega),Nat.add_sub_cancel_left];exact h⟩
  rcases hall n b hb with ⟨_,h3,_⟩|⟨n',b',h3,h4,_⟩
  ·exact h3
  exact h4.2.1 (hI.rows n' b' h3).2
 ·intro n b hb
  rcases happ _ n b (by rw [hlen0]) hb with ⟨hlt,h⟩|⟨j,rfl,h⟩
  ·have hb':=hM.ln n b h
   have h5:=hI.lens n b hb'
   have hw':=hw.ln b (List.mem_of_getElem? h)
   unfold ae.jW ae.xs at h5 ⊢
   rw [holdL b.c hw',hα0 n hlt]
   exact h5
  obtain⟨n',b',_,h2,h3,_⟩:=hnew j b h
  exact(h3.2.1 (hI.rows n' b' h2).2).len
 -- the shapes
 have:∀ (shs:List Sh) (xs:List Value),shs.length=xs.length→(∀ (j:Nat) (h:Sh) (x:Value),shs[j]?=some h→xs[j]?=some x→h.fit x=true)→Sh.dC shs xs=true:=by
  intro shs
  induction shs with
  | nil=>intro xs h _;cases xs<;>simp [Sh.dC]at h ⊢
  | cons h l ih =>
   intro xs hlx hf
   cases xs with
   | nil=>simp at hlx
   | cons x xs =>
    simp only [Sh.dC,Bool.and_eq_true]
    exact⟨hf 0 h x rfl rfl,ih xs (by simpa using hlx) fun j h' x' h1 h2=>hf (j+1) h' x' (by simpa using h1) (by simpa using h2)⟩
 refine this _ _ (by simp [hxl]) fun j h x h1 h2=>?_
 rw [List.getElem?_map,Option.map_eq_some_iff]at h1
 obtain⟨⟨p,hk⟩,hj,rfl⟩:=h1
 obtain⟨u,v,_,_,h3,h4,_⟩:=hpos j p hk hj
 have:=du (ρ:=ρ) (α:=α) h3
 rw [h2]at this
 obtain rfl:x=v.den ρ α:=by simpa using this
 exact h4
end
end SX
namespace SX
def jk:List It→List TF→Option Nat
 | .code _::k,T=>jk k T
 | .inBlock _::k,T=>jk k T
 | .rounds _ _::k,T=>jk k T
 | .ops _ _::k,T=>jk k T
 | .again _ _ _ _::k,T=>jk k T
 | .beginR::k,T=>jk k T
 | .dP _ _ _ _::_,_::c::_=>c.lp.map (·.1)
 | _,_=>none
def LS.out:LS→Option Exit
 | .ret=>some .ret
 | .exit id=>some (.exit id)
 | _=>none
def sf:List TF→Option (Nat×Loop)
 | c::_=>c.lp
 | []=>none
def iH(P:Program)(R:Ending→World→Prop):List It→List TF→List (Act→World→Prop)→Exit→Act→World→Prop
 | [],_,_=>fun _ _ _=>False
 | .top fn::_,_,_=>dP P fn R
 | .code c::k,T,J=>Exit.then (jX (jk k T) P c (iH P R k T J)) (iH P R k T J)
 | .inBlock id::k,T,J=>Exit.inBlock id (iH P R k T J)
 | .rounds c m::k,T,J=>Exit.then (pA (jk k T) P c (iH P R k T J) m) (iH P R k T J)
 | .ops all rest::k,T,J=>Exit.then (eN (jk k T) P all (iH P R k T J) rest) (iH P R k T J)
 | .back fn _ dst all rest::k,t::T,J=>dP P fn fun e w'=>∃ v,e=.returned v∧eN (jk k T) P all (iH P R k T J) rest (({ tmps:=t.t,defers:=t.ds }:Act).put dst v) w'
 | .back _ _ _ _ _::_,[],_=>fun _ _ _=>False
 | .again _ _ _ _::k,T,j::J=>Exit.then j (iH P R k T J)
 | .again _ _ _ _::_,_,[]=>fun _ _ _=>False
 | .beginR::k,T,J=>Exit.then (fun a1 W1=>∃ l r,sf T.tail=some (l,r)∧W1.heap[l]?=some (.loop r)∧iH P R k T J .normal a1 (W1.putObj l (.loop { r with state:=.busy }))) fun _ _ _=>False
 | .dP _ dst all rest::k,t::T,J=>fun e a1 W1=>∃ l r,sf T=some (l,r)∧GK l r (fun v W=>eN (jk k T) P all (iH P R k T J) rest (({ tmps:=t.t,defers:=t.ds }:Act).put dst v) W) e a1 W1
 | .dP _ _ _ _::_,[],_=>fun _ _ _=>False
 | .endl fn _ _ _ _::k,c::T,J=>dP P fn fun e W=>∃ l r v st pe,c.lp=some (l,r)∧e=.returned v∧st≠.busy∧W.heap[l]?=some (.loop { r with state:=st,pending:=pe }) ∧
  EY P (iH P R k T J) (xq r.defers { tmps:=c.t,defers:=c.ds }) (W.putObj l (.loop { r with state:=.exhausted,pending:=pe })) pe
 | .endl _ _ _ _ _::_,[],_=>fun _ _ _=>False
 | .jump j::k,T,J=>fun _ a1 W1=>∃ e,j.out=some e∧iH P R k T J e a1 W1
def Rel(w0:eT)(ps:List (World→Prop))(T0:List TF)(L:List (Cx→List Value→Prop))(ρ:List Value):List It→List TF→List (Act→World→Prop)→Prop
 | [],_,_=>True
 | .back _ _ _ _ _::k,t::T,J=>t.lp=none∧Rel w0 ps T0 L ρ k T J
 | .back _ _ _ _ _::_,[],_=>False
 | .again l an ws s0::k,T,j::J=>(∃ (ρ0:List Value) (A:Cx→List Value→Prop) (ps0:List (World→Prop)),(∀ p∈ps0,p∈ps)∧L[l]?=some A∧ρ0<+:ρ∧Good ρ0 s0∧s0.Wf ρ0.length∧(∀ (n:Nat) (b:ae),s0.hp[n]?=some (some b)→lv s0.ln n=true)∧(∀ q∈s0.lps,lv s0.ln q.1=true)∧∀ (C:Cx) ps' xs a W,ll C w0 ps'→(∀ p∈ps0,p∈ps')→A C xs→Sh.dC (an.pos.map fun e=>e.2.sh) xs=true→Inv w0 ps' T (ρ0++xs) (dx an ws s0) a W→j a W)∧Rel w0 ps T0 L ρ k T J
 | .again _ _ _ _::_,_,[]=>False
 | .top _::_,T,_=>T=T0
 | .code _::k,T,J=>Rel w0 ps T0 L ρ k T J
 | .inBlock _::k,T,J=>Rel w0 ps T0 L ρ k T J
 | .rounds _ _::k,T,J=>Rel w0 ps T0 L ρ k T J
 | .ops _ _::k,T,J=>Rel w0 ps T0 L ρ k T J
 | .beginR::k,T,J=>(∃ it T',T=it::T'∧it.lp=none∧(sf T').isSome=true)∧Rel w0 ps T0 L ρ k T J
 | .jump _::k,T,J=>Rel w0 ps T0 L ρ k T J
 | .dP _ _ _ _::k,t::T,J=>t.lp=none∧(sf T).isSome=true∧Rel w0 ps T0 L ρ k T J
 | .dP _ _ _ _::_,[],_=>False
 | .endl fn _ ps' assign body::k,c::T,J=>(∃ l r,c.lp=some (l,r)∧r.params=ps'∧r.assign=assign∧r.body=body)∧jk k T=none∧Rel w0 ps T0 L ρ k T J
 | .endl _ _ _ _ _::_,[],_=>False
section
variable {P:Program}{R:Ending→World→Prop}{w0:eT}{ps:List (World→Prop)}{T0:List TF}{L L':List (Cx→List Value→Prop)}{ρ ρ':List Value}
theorem Rel.mono(hρ:ρ<+:ρ')(hL:L<+:L'):∀ {k:List It}{T:List TF}{J:List (Act→World→Prop)},Rel w0 ps T0 L ρ k T J→Rel w0 ps T0 L' ρ' k T J
 | [],_,_,_=>trivial
 | .back _ _ _ _ _::k,_::T,J,h=>⟨h.1,Rel.mono hρ hL (k:=k) h.2⟩
 | .back _ _ _ _ _::_,[],_,h=>h
 | .again l an ws s0::k,T,j::J,⟨⟨ρ0,A,ps0,h0,h1,h2,h3⟩,h⟩=>⟨⟨ρ0,A,ps0,h0,by obtain⟨r,rfl⟩:=hL;rw [List.getElem?_append_left (List.getElem?_eq_some_iff.1 h1).1];exact h1,h2.trans hρ,h3⟩,Rel.mono hρ hL (k:=k) h⟩
 | .again _ _ _ _::_,_,[],h=>h
 | .top _::_,_,_,h=>h
 | .code _::k,T,J,h=>Rel.mono hρ hL (k:=k) h
 | .inBlock _::k,T,J,h=>Rel.mono hρ hL (k:=k) h
 | .rounds _ _::k,T,J,h=>Rel.mono hρ hL (k:=k) h
 | .ops _ _::k,T,J,h=>Rel.mono hρ hL (k:=k) h
 | .beginR::k,T,J,h=>⟨h.1,Rel.mono hρ hL (k:=k) h.2⟩
 | .jump _::k,T,J,h=>Rel.mono hρ hL (k:=k) h
 | .dP _ _ _ _::k,_::T,J,h=>⟨h.1,h.2.1,Rel.mono hρ hL (k:=k) h.2.2⟩
 | .dP _ _ _ _::_,[],_,h=>h
 | .endl _ _ _ _ _::k,_::T,J,h=>⟨h.1,h.2.1,Rel.mono hρ hL (k:=k) h.2.2⟩
 | .endl _ _ _ _ _::_,[],_,h=>h
theorem Rel.BE{ps':List (World→Prop)}(hp:∀ p∈ps,p∈ps'):∀ {k:List It}{T:List TF}{J:List (Act→World→Prop)},Rel w0 ps T0 L ρ k T J→Rel w0 ps' T0 L ρ k T J
 | [],_,_,_=>trivial
 | .back _ _ _ _ _::k,_::T,J,h=>⟨h.1,Rel.BE hp (k:=k) h.2⟩
 | .back _ _ _ _ _::_,[],_,h=>h
 | .again l an ws s0::k,T,j::J,⟨⟨ρ0,A,ps0,h0,h3⟩,h⟩=>⟨⟨ρ0,A,ps0,fun p hq=>hp p (h0 p hq),h3⟩,Rel.BE hp (k:=k) h⟩
 | .again _ _ _ _::_,_,[],h=>h
 | .top _::_,_,_,h=>h
 | .code _::k,T,J,h=>Rel.BE hp (k:=k) h
 | .inBlock _::k,T,J,h=>Rel.BE hp (k:=k) h
 | .rounds _ _::k,T,J,h=>Rel.BE hp (k:=k) h
 | .ops _ _::k,T,J,h=>Rel.BE hp (k:=k) h
 | .beginR::k,T,J,h=>⟨h.1,Rel.BE hp (k:=k) h.2⟩
 | .jump _::k,T,J,h=>Rel.BE hp (k:=k) h
 | .dP _ _ _ _::k,_::T,J,h=>⟨h.1,h.2.1,Rel.BE hp (k:=k) h.2.2⟩
 | .dP _ _ _ _::_,[],_,h=>h
 | .endl _ _ _ _ _::k,_::T,J,h=>⟨h.1,h.2.1,Rel.BE hp (k:=k) h.2.2⟩
 | .endl _ _ _ _ _::_,[],_,h=>h
theorem jg{id:Nat}:∀ {k k':List It}{T:List TF}{J:List (Act→World→Prop)},bQ id k=some k'→Rel w0 ps T0 L ρ k T J→∃ J',Rel w0 ps T0 L ρ k' T J'∧∀ a W,iH P R k' T J' .normal a W→iH P R k T J (.exit id) a W
 | [],_,_,_,h,_=>by simp [bQ]at h
 | .back _ _ _ _ _::k,_,_,_,h,_=>by simp [bQ]at h
 | .top _::k,_,_,_,h,_=>by simp [bQ]at h
 | .ops _ _::k,_,_,_,h,_=>by simp [bQ]at h
 | .beginR::k,_,_,_,h,_=>by simp [bQ]at h
 | .dP _ _ _ _::k,_,_,_,h,_=>by simp [bQ]at h
 | .endl _ _ _ _ _::k,_,_,_,h,_=>by simp [bQ]at h
 | .jump _::k,_,_,_,h,_=>by simp [bQ]at h
 | .again l an ws s0::k,k',T,[],h,hr=>hr.elim
 | .again l an ws s0::k,k',T,j::J,h,hr=>by
  obtain⟨J',h1,h2⟩:=jg (k:=k) (k':=k') (T:=T) (J:=J) (by simpa [bQ]using h) hr.2
  exact⟨J',h1,fun a W hw=>h2 a W hw⟩
 | .code _::k,k',T,J,h,hr=>by
  obtain⟨J',h1,h2⟩:=jg (k:=k) (k':=k') (T:=T) (J:=J) (by simpa [bQ]using h) hr
  exact⟨J',h1,fun a W hw=>h2 a W hw⟩
 | .rounds _ _::k,k',T,J,h,hr=>by
  obtain⟨J',h1,h2⟩:=jg (k:=k) (k':=k') (T:=T) (J:=J) (by simpa [bQ]using h) hr
  exact⟨J',h1,fun a W hw=>h2 a W hw⟩
 | .inBlock id'::k,k',T,J,h,hr=>by
  unfold bQ at h
  split at h
  ·rename_i hid
   subst hid
   obtain rfl:k=k':=by simpa using h
   exact⟨J,hr,fun a W hw=>by simp only [iH,Exit.inBlock,if_true];exact hw⟩
  rename_i hid
  obtain⟨J',h1,h2⟩:=jg (k:=k) (k':=k') (T:=T) (J:=J) h hr
  exact⟨J',h1,fun a W hw=>by simp only [iH,Exit.inBlock,if_neg hid];exact h2 a W hw⟩
theorem qK:∀ {k k':List It}{T:List TF}{J:List (Act→World→Prop)},fB k=some k'→Rel w0 ps T0 L ρ k T J→∃ J',Rel w0 ps T0 L ρ k' T J'∧∀ a W,iH P R k' T J' .normal a W→iH P R k T J .ret a W
 | [],_,_,_,h,_=>by simp [fB]at h
 | .back f c d a r::k,k',t::T,J,h,hr=>by
  obtain rfl:It.back f c d a r::k=k':=by simpa [fB]using h
  exact⟨J,hr,fun a W hw=>hw⟩
 | .back f c d a r::k,k',[],J,h,hr=>hr.elim
 | .endl f c d a r::k,k',t::T,J,h,hr=>by
  obtain rfl:It.endl f c d a r::k=k':=by simpa [fB]using h
  exact⟨J,hr,fun a W hw=>hw⟩
 | .endl f c d a r::k,k',[],J,h,hr=>hr.elim
 | .top f::k,k',T,J,h,hr=>by
  obtain rfl:It.top f::k=k':=by simpa [fB]using h
  exact⟨J,hr,fun a W hw=>hw⟩
 | .ops _ _::k,_,_,_,h,_=>by simp [fB]at h
 | .beginR::k,_,_,_,h,_=>by simp [fB]at h
 | .dP _ _ _ _::k,_,_,_,h,_=>by simp [fB]at h
 | .jump _::k,_,_,_,h,_=>by simp [fB]at h
 | .again l an ws s0::k,k',T,[],h,hr=>hr.elim
 | .again l an ws s0::k,k',T,j::J,h,hr=>by
  obtain⟨J',h1,h2⟩:=qK (k:=k) (k':=k') (T:=T) (J:=J) (by simpa [fB]using h) hr.2
  exact⟨J',h1,fun a W hw=>h2 a W hw⟩
 | .code _::k,k',T,J,h,hr=>by
  obtain⟨J',h1,h2⟩:=qK (k:=k) (k':=k') (T:=T) (J:=J) (by simpa [fB]using h) hr
  exact⟨J',h1,fun a W hw=>h2 a W hw⟩
 | .rounds _ _::k,k',T,J,h,hr=>by
  obtain⟨J',h1,h2⟩:=qK (k:=k) (k':=k') (T:=T) (J:=J) (by simpa [fB]using h) hr
  exact⟨J',h1,fun a W hw=>h2 a W hw⟩
 | .inBlock _::k,k',T,J,h,hr=>by
  obtain⟨J',h1,h2⟩:=qK (k:=k) (k':=k') (T:=T) (J:=J) (by simpa [fB]using h) hr
  exact⟨J',h1,fun a W hw=>h2 a W hw⟩
theorem iV:∀ {k k':List It}{T:List TF}{J:List (Act→World→Prop)},b6 k=some k'→Rel w0 ps T0 L ρ k T J→∃ J',Rel w0 ps T0 L ρ k' T J'∧∀ a W,iH P R k' T J' .ret a W→iH P R k T J .ret a W
 | [],_,_,_,h,_=>by simp [b6]at h
 | .back _ _ _ _ _::k,_,_,_,h,_=>by simp [b6]at h
 | .top _::k,_,_,_,h,_=>by simp [b6]at h
 | .ops _ _::k,_,_,_,h,_=>by simp [b6]at h
 | .beginR::k,_,_,_,h,_=>by simp [b6]at h
 | .endl _ _ _ _ _::k,_,_,_,h,_=>by simp [b6]at h
 | .jump _::k,_,_,_,h,_=>by simp [b6]at h
 | .dP c d a r::k,k',T,J,h,hr=>by
  obtain rfl:It.dP c d a r::k=k':=by simpa [b6]using h
  exact⟨J,hr,fun a W hw=>hw⟩
 | .again l an ws s0::k,k',T,[],h,hr=>hr.elim
 | .again l an ws s0::k,k',T,j::J,h,hr=>by
  obtain⟨J',h1,h2⟩:=iV (k:=k) (k':=k') (T:=T) (J:=J) (by simpa [b6]using h) hr.2
  exact⟨J',h1,fun a W hw=>h2 a W hw⟩
 | .code _::k,k',T,J,h,hr=>by
  obtain⟨J',h1,h2⟩:=iV (k:=k) (k':=k') (T:=T) (J:=J) (by simpa [b6]using h) hr
  exact⟨J',h1,fun a W hw=>h2 a W hw⟩
 | .rounds _ _::k,k',T,J,h,hr=>by
  obtain⟨J',h1,h2⟩:=iV (k:=k) (k':=k') (T:=T) (J:=J) (by simpa [b6]using h) hr
  exact⟨J',h1,fun a W hw=>h2 a W hw⟩
 | .inBlock _::k,k',T,J,h,hr=>by
  obtain⟨J',h1,h2⟩:=iV (k:=k) (k':=k') (T:=T) (J:=J) (by simpa [b6]using h) hr
  exact⟨J',h1,fun a W hw=>h2 a W hw⟩
theorem gQ{id:Nat}:∀ {k k':List It}{T:List TF}{J:List (Act→World→Prop)},b6 k=some k'→bQ id k=none→Rel w0 ps T0 L ρ k T J→∃ J',Rel w0 ps T0 L ρ k' T J'∧∀ a W,iH P R k' T J' (.exit id) a W→iH P R k T J (.exit id) a W
 | [],_,_,_,h,_,_=>by simp [b6]at h
 | .back _ _ _ _ _::k,_,_,_,h,_,_=>by simp [b6]at h
 | .top _::k,_,_,_,h,_,_=>by simp [b6]at h
 | .ops _ _::k,_,_,_,h,_,_=>by simp [b6]at h
 | .beginR::k,_,_,_,h,_,_=>by simp [b6]at h
 | .endl _ _ _ _ _::k,_,_,_,h,_,_=>by simp [b6]at h
 | .jump _::k,_,_,_,h,_,_=>by simp [b6]at h
 | .dP c d a r::k,k',T,J,h,_,hr=>by
  obtain rfl:It.dP c d a r::k=k':=by simpa [b6]using h
  exact⟨J,hr,fun a W hw=>hw⟩
 | .again l an ws s0::k,k',T,[],h,_,hr=>hr.elim
 | .again l an ws s0::k,k',T,j::J,h,hu,hr=>by
  obtain⟨J',h1,h2⟩:=gQ (k:=k) (k':=k') (T:=T) (J:=J) (by simpa [b6]using h) (by simpa [bQ]using hu) hr.2
  exact⟨J',h1,fun a W hw=>h2 a W hw⟩
 | .code _::k,k',T,J,h,hu,hr=>by
  obtain⟨J',h1,h2⟩:=gQ (k:=k) (k':=k') (T:=T) (J:=J) (by simpa [b6]using h) (by simpa [bQ]using hu) hr
  exact⟨J',h1,fun a W hw=>h2 a W hw⟩
 | .rounds _ _::k,k',T,J,h,hu,hr=>by
  obtain⟨J',h1,h2⟩:=gQ (k:=k) (k':=k') (T:=T) (J:=J) (by simpa [b6]using h) (by simpa [bQ]using hu) hr
  exact⟨J',h1,fun a W hw=>h2 a W hw⟩
 | .inBlock id'::k,k',T,J,h,hu,hr=>by
  unfold bQ at hu
  split at hu
  ·cases hu
  rename_i hid
  obtain⟨J',h1,h2⟩:=gQ (k:=k) (k':=k') (T:=T) (J:=J) (by simpa [b6]using h) hu hr
  exact⟨J',h1,fun a W hw=>by simp only [iH,Exit.inBlock,if_neg hid];exact h2 a W hw⟩
theorem mz:∀ {k:List It}{T:List TF}{J:List (Act→World→Prop)}{cur:FuncId}{ps':Array Tmp}{assign body:Code},dw k=some (cur,ps',assign,body)→Rel w0 ps T0 L ρ k T J→jk k T=none∧∃ c T' l r,T=c::T'∧c.lp=some (l,r)∧r.params=ps'∧r.assign=assign∧r.body=body
 | [],_,_,_,_,_,_,h,_=>by simp [dw]at h
 | .back _ _ _ _ _::k,_,_,_,_,_,_,h,_=>by simp [dw]at h
 | .top _::k,_,_,_,_,_,_,h,_=>by simp [dw]at h
 | .ops _ _::k,_,_,_,_,_,_,h,_=>by simp [dw]at h
 | .beginR::k,_,_,_,_,_,_,h,_=>by simp [dw]at h
 | .dP _ _ _ _::k,_,_,_,_,_,_,h,_=>by simp [dw]at h
 | .jump _::k,_,_,_,_,_,_,h,_=>by simp [dw]at h
 | .endl f c p x y::k,T,J,cur,ps',assign,body,h,hr=>by
  simp only [dw,Option.some.injEq,Prod.mk.injEq]at h
  obtain⟨rfl,rfl,rfl,rfl⟩:=h
  cases T with
  | nil=>exact hr.elim
  | cons t T =>
   obtain⟨⟨l,r,h1,h2,h3,h4⟩,_⟩:=hr
   exact⟨rfl,t,T,l,r,rfl,h1,h2,h3,h4⟩
 | .again l an ws s0::k,T,[],_,_,_,_,h,hr=>hr.elim
 | .again l an ws s0::k,T,j::J,_,_,_,_,h,hr=>mz (k:=k) (T:=T) (J:=J) (by simpa [dw]using h) hr.2
 | .code _::k,T,J,_,_,_,_,h,hr=>mz (k:=k) (T:=T) (J:=J) (by simpa [dw]using h) hr
 | .rounds _ _::k,T,J,_,_,_,_,h,hr=>mz (k:=k) (T:=T) (J:=J) (by simpa [dw]using h) hr
 | .inBlock _::k,T,J,_,_,_,_,h,hr=>mz (k:=k) (T:=T) (J:=J) (by simpa [dw]using h) hr
theorem jb:∀ {k:List It}{T:List TF},fo k=true→jk k T=none
 | [],_,h=>by simp [fo]at h
 | .back _ _ _ _ _::k,_,_=>rfl
 | .top _::k,_,_=>rfl
 | .ops _ _::k,_,h=>by simp [fo]at h
 | .beginR::k,_,h=>by simp [fo]at h
 | .endl _ _ _ _ _::k,_,_=>rfl
 | .jump _::k,_,_=>rfl
 | .dP _ _ _ _::k,_,h=>by simp [fo]at h
 | .again _ _ _ _::k,T,h=>by simp only [jk];exact jb (by simpa [fo]using h)
 | .code _::k,T,h=>by simp only [jk];exact jb (by simpa [fo]using h)
 | .rounds _ _::k,T,h=>by simp only [jk];exact jb (by simpa [fo]using h)
 | .inBlock _::k,T,h=>by simp only [jk];exact jb (by simpa [fo]using h)
end
section
variable {C:Cx}{w0:eT}{ps:List (World→Prop)}{T:List TF}{ρ:List Value}{s:S}{a:Act}{W:World}{α:Nat→AV}
def DF(tmps:Array Value):ResultVar→Sem Value
 | .tmp t=>pure (tmps.getD t undef)
 | .cell a t=>do loadVar t (← asAddr (tmps.getD a undef))
theorem z7(fn:Func)(tmps:Array Value):results fn tmps=(do
 let vs ← fn.results.mapM (DF tmps)
 pure (if h:vs.size=1 then vs[0]else .tuple vs)):=rfl
theorem Jf(hI:ay w0 ps T ρ s a W α){r:ResultVar}{v:V}(h:vc C.P s r=some v):(DF a.tmps r).run C.P W=.ok (v.den ρ α) W:=by
 cases r with
 | tmp t =>
  have:=iW hI.good hI.fm (d:=t) h
  simp [DF,Array.getD_eq_getD_getElem?,this]
 | cell p t =>
  unfold vc at h
  dsimp only at h
  split at h
  ·rename_i n o hp
   have hp':=iW hI.good hI.fm hp
   have hb':∀ b,((s.hp[n]?).join).bind jq=some b→s.hp[n]?=some (some b)∧b.k=.cells:=fun b hb=>by
    obtain⟨b0,hb2,hb0⟩:=Option.bind_eq_some_iff.1 hb
    obtain⟨e,hk⟩:=Cs hb0
    subst e
    refine⟨?_,hk⟩
    cases hq:s.hp[n]? with
    | none=>simp [hq]at hb2
    | some u=>simp [hq]at hb2;rw [hb2]
   split at h
   ·rename_i b sz hb hr hs
    split at h
    ·rename_i hlt
     obtain rfl:=by simpa using h
     have hm:=hI.st.at_ (hI.dt (hb' b hb).1 (hb' b hb).2)
     have:=jJ (P:=C.P) (off:=o) (n:=sz) hm hr hs (by simpa [aj]using hlt)
     simp only [DF,Array.getD_eq_getD_getElem?,hp',Option.getD_some,V.den,asAddr,Sem.run_bind,Sem.run_pure,Result.andThen_ok,this]
     rw [uA,cm]
    cases h
   ·rename_i b hb hr
    have hm:=hI.st.at_ (hI.dt (hb' b hb).1 (hb' b hb).2)
    have:=m7 (P:=C.P) (off:=o) (v:=v.den ρ α) hm hr (by simpa using du (ρ:=ρ) (α:=α) h)
    simp only [DF,Array.getD_eq_getD_getElem?,hp',Option.getD_some,V.den,asAddr,Sem.run_bind,Sem.run_pure,Result.andThen_ok,this]
   cases h
  cases h
end
section
variable {C:Cx}{w0:eT}{ps:List (World→Prop)}{T T0:List TF}{ρ:List Value}{s:S}{a:Act}{W:World}{α:Nat→AV}{R:Ending→World→Prop}{L:List (Cx→List Value→Prop)}
theorem ay.K8(hI:ay w0 ps T ρ s a W α){p:Pos}{u v:V}(hg:p.get s=some u)(hd:v.den ρ α=u.den ρ α)(hw:v.wf s.ln ρ.length=true):ay w0 ps T ρ (p.put s v) a W α:=by
 cases p with
 | s d =>
  have hl:=iW hI.good hI.fm hg
  refine⟨hI.defers,⟨hI.good.len,hI.good.fit,hI.good.kn⟩,⟨fun x hx=>?_,hI.wf.stk,hI.wf.hp,hI.wf.ln⟩,⟨by simp [Pos.put,hI.fm.1],fun d' x hx=>?_⟩,hI.kW,hI.st,hI.rows,hI.lens⟩
  ·rcases mem_set hx with h|h
   ·obtain rfl:x=v:=by simpa using h
    exact hw
   exact hI.wf.fr x h
  simp only [Pos.put,List.getElem?_set]at hx
  split at hx
  ·rename_i e
   subst e
   split at hx
   ·obtain rfl:v=x:=by simpa using hx
    rw [hl,hd]
   cases hx
  exact hI.fm.2 d' x hx
 | g k ds=>exact hI
 | f k d =>
  simp only [Pos.get]at hg
  have hg:=join_some hg
  obtain⟨f0,hf0,hd0⟩:=Option.bind_eq_some_iff.1 hg
  obtain⟨q3,q4⟩:=mI.1 hI.kW
  refine⟨hI.defers,⟨hI.good.len,hI.good.fit,hI.good.kn⟩,⟨hI.wf.fr,fun f hf=>?_,hI.wf.hp,hI.wf.ln⟩,hI.fm,mI.2 ⟨by simp [Pos.put,q3],fun j f t hf ht=>?_⟩,hI.st,hI.rows,hI.lens⟩
  ·obtain⟨j,hj⟩:=List.mem_iff_getElem?.1 hf
   simp only [Pos.put,List.getElem?_mapIdx,Option.map_eq_some_iff]at hj
   obtain⟨f1,hf1,rfl⟩:=hj
   split
   ·intro x hx
    rcases mem_set hx with h|h
    ·obtain rfl:x=v:=by simpa using h
     exact hw
    exact hI.wf.stk f1 (List.mem_of_getElem? hf1) x h
   exact hI.wf.stk f1 (List.mem_of_getElem? hf1)
  simp only [Pos.put,List.getElem?_mapIdx,Option.map_eq_some_iff]at hf
  obtain⟨f1,hf1,rfl⟩:=hf
  have h2:=q4 j f1 t hf1 ht
  split
  ·rename_i e
   subst e
   rw [hf0]at hf1
   cases hf1
   refine⟨by simp [h2.1],fun d' x hx=>?_⟩
   simp only [List.getElem?_set]at hx
   split at hx
   ·rename_i e
    subst e
    split at hx
    ·obtain rfl:v=x:=by simpa using hx
     rw [hd]
     exact h2.2 d u hd0
    cases hx
   exact h2.2 d' x hx
  exact h2
 | c n k =>
  simp only [Pos.get]at hg
  obtain⟨b,hb,hk⟩:=Option.bind_eq_some_iff.1 hg
  obtain⟨b0,hb0,hb1⟩:=Option.bind_eq_some_iff.1 hb
  obtain⟨rfl,hbk⟩:=Fb hb1
  have hn:=join_some hb0
  have hput:(Pos.c n k).put s v={ s with hp:=s.hp.set n (some ⟨b0.c.set k v,b0.t,b0.k⟩) }:=by simp only [Pos.put,hb]
  rw [hput]
  have hden:ab ρ α (b0.c.set k v)=ab ρ α b0.c:=by
   apply List.ext_getElem?
   intro i
   rw [aw,aw,List.getElem?_map,List.getElem?_map,List.getElem?_set]
   split
   ·rename_i e
    subst e
    split
    ·rw [hk];simp [hd]
    rename_i hlt
    rw [List.getElem?_eq_none (by omega)]
   rfl
  have hch:∀ m,(⟨b0.c.set k v,b0.t,b0.k⟩:ae).ch ρ α m=b0.ch ρ α m:=fun m=>by rcases hbk with hbk|⟨k9,ag9,hbk⟩<;>simp only [ae.ch,ae.xs,hbk,hden]
  have hc:aN ρ α 0 (s.hp.set n (some ⟨b0.c.set k v,b0.t,b0.k⟩))=aN ρ α 0 s.hp:=by
   obtain⟨l1,l2,q1,q2⟩:=cl (ρ:=ρ) (α:=α) (k:=0) hn
   rw [q2,q1]
   simp only [Option.bind_some,hch]
  refine⟨hI.defers,⟨hI.good.len,hI.good.fit,hI.good.kn⟩,⟨hI.wf.fr,hI.wf.stk,fun d hd'=>?_,hI.wf.ln⟩,hI.fm,hI.kW,?_,fun m c hm=>?_,hI.lens⟩
  ·rcases mem_set hd' with h|h
   ·obtain rfl:d=⟨b0.c.set k v,b0.t,b0.k⟩:=by simpa using h
    refine jO fun x hx=>?_
    rcases List.mem_or_eq_of_mem_set hx with h|h
    ·exact dA (hI.wf.hp b0 (List.mem_of_getElem? hn)) x h
    subst h;exact hw
   exact hI.wf.hp d h
  ·show St w0 (aN ρ α 0 (s.hp.set n (some ⟨b0.c.set k v,b0.t,b0.k⟩))) (dp a s T) _ W
   rw [hc]
   refine jd hI.st (fM (iw fun m c hm=>?_))
   rcases bw hm with ⟨rfl,rfl⟩|⟨_,h⟩
   ·exact .inl (by rcases hbk with hbk|⟨k9,ag9,hbk⟩<;>simp [ae.own,hbk])
   exact .inr ⟨c,h,rfl⟩
  rcases bw hm with ⟨rfl,rfl⟩|⟨_,h⟩
  ·exact⟨hI.live _ _ hn,by rcases hbk with hbk|⟨k9,ag9,hbk⟩<;>simp [ae.bo,hbk]⟩
  exact hI.rows m c h
theorem qa{p:Pos}{u:V}{sh:List Sh}{b:ae}(hg:p.get s=some u):p.get ({ (s.room 1)with sh:=sh }.make s.hp.length b)=some u:=by
 cases p with
 | s d=>exact hg
 | f k d=>exact hg
 | g k ds=>exact hg
 | c n k =>
  simp only [Pos.get]at hg ⊢
  obtain⟨b1,hb,hk⟩:=Option.bind_eq_some_iff.1 hg
  obtain⟨b0,hb0,hb1⟩:=Option.bind_eq_some_iff.1 hb
  have hn:=join_some hb0
  have hlt:=(List.getElem?_eq_some_iff.1 hn).1
  have:({ (s.room 1)with sh:=sh }.make s.hp.length b).hp[n]?=some (some b0):=by
   simp only [S.make,S.room]
   rw [List.getElem?_set_ne (by omega),List.getElem?_append_left hlt]
   exact hn
  rw [this]
  simp only [Option.join_some,Option.bind_some,hb1,hk]
theorem eh{s:S}{n:Nat}(h:cS s n=true):aW s n:=by
 unfold cS at h
 split at h
 ·exact⟨by assumption,by assumption⟩
 cases h
theorem po{s:S}{n:Nat}{b:ae}(h:aW s n):lv (s.ln.set n (some b)) n=true:=by
 refine cN.2 ⟨b,?_⟩
 rw [List.getElem?_set,if_pos rfl,if_pos (List.getElem?_eq_some_iff.1 h.2).1]
theorem dI(hps:ll C w0 ps){Gl:Prop}:∀ (l:List (Pos×HK))(s:S)(ρ:List Value)(k:S→Tree),VC C w0 ps T0 R L ρ (settle s l k)→Inv w0 ps T ρ s a W→(∀ s' ρ',VC C w0 ps T0 R L ρ' (k s')→ρ<+:ρ'→Inv w0 ps T ρ' s' a W→Gl)→Gl
 | [],s,ρ,k,hv,hI,h=>h s ρ hv (List.prefix_refl _) hI
 | (p,.one)::l,s,ρ,k,hv,hI,h=>dI hps l s ρ k (by simpa only [settle]using hv) hI h
 | (p,.ag n)::l,s,ρ,k,hv,hI,h=>dI hps l s ρ k (by simpa only [settle]using hv) hI h
 | (p,.any)::l,s,ρ,k,hv,hI,h=>dI hps l s ρ k (by simpa only [settle]using hv) hI h
 | (p,.row sz e)::l,s,ρ,k,hv,hI,h=>by
  simp only [settle]at hv
  split at hv
  ·rename_i hg
   split at hv
   ·rename_i hc
    simp only [Bool.and_eq_true,decide_eq_true_eq]at hc
    obtain⟨α,hA⟩:=hI
    obtain⟨α',h1,h2,h3⟩:=(hA.room 1).F6 (b:=⟨[],e,.row sz⟩) (eh hc.2) rfl (W':=W) ⟨0,.slice none 0 0,[]⟩ fun α' q1 q2 q3 q4=>by
     refine⟨?_,hc.1,.inl ⟨rfl,by rw [q1]⟩⟩
     rw [fS (k:=0) (eh hc.2).1 (by simp only [ae.ch,Nat.zero_add,q1]),q4]
     exact(hA.room 1).st
    have h4:=h3.K8 (p:=p) (u:=.k (.slice none 0 0)) (v:=.row s.hp.length) (qa (s:=s) (sh:=s.sh) hg) (by simp only [V.den,h1]) (by
     show lv ((s.room 1).ln.set s.hp.length _) s.hp.length=true
     exact po (eh hc.2))
    exact dI hps l _ ρ k hv ⟨α',h4⟩ h
   simp [VC]at hv
  exact dI hps l s ρ k hv hI h
 | (p,.ext sz)::l,s,ρ,k,hv,hI,h=>by
  simp only [settle]at hv
  split at hv
  ·rename_i i q hg
   split at hv
   ·rename_i hc
    simp only [Bool.and_eq_true,decide_eq_true_eq]at hc
    obtain⟨⟨h0,hi⟩,hfr⟩:=hc
    simp only [VC]at hv
    obtain⟨v,hrel,hfit,hv⟩:=hv.resolve_right fun⟨_,_,hq,_⟩=>False.elim (hq fun _=>default)
    obtain⟨α,hA⟩:=hI
    obtain⟨cells,⟨A,n,c,hx,hnc⟩,hK,hAl,rfl⟩:=hrel α
    have hA1:=(hA.room 1).ext (h:=.any) (v:=.agg cells.toArray) rfl
    have hKf:∀ W2,bc (aX (aN (ρ++[.agg cells.toArray]) α 0 (s.room 1).hp) (dp a s T)) W W2→Kf C W2:=fun W2 h2=>hA1.st.pers _ (List.mem_append.2 (.inr hps.1)) W2 h2
    have hsl:(ρ++[Value.agg cells.toArray]).getD s.sh.length undef=Value.agg cells.toArray:=by rw [hA.good.len];simp
    have hxs:(⟨[.x s.sh.length []],0,.ext sz⟩:ae).xs (ρ++[.agg cells.toArray]) α=cells:=by
     simp only [ae.xs,ab,V.den,List.foldl_nil,hsl,List.flatMap_cons,List.flatMap_nil,aa,List.append_nil]
    have hrd:∀ W2,C.K (.slice A n c) sz cells→Kf C W2→Arg.rd W2 ⟨.slice A n c,sz,cells⟩:=fun W2 h1 h2=>h2 _ _ _ h1
    rw [hx]at hK hAl
    have hR:=hrd W hK (hA.fact hps.1)
    have hR':Rd W sz A n cells:=hR.1
    obtain⟨α',h1,h2,h3⟩:=hA1.KZ (b:=⟨[.x s.sh.length []],0,.ext sz⟩) (eh hfr) rfl (by
     simp only [dc,V.wf,Bool.and_true,decide_eq_true_eq,List.length_append,List.length_cons,List.length_nil]
     rw [hA.good.len];omega) (W':=W) ⟨0,.slice A n c,[]⟩ hA1.st h0 ⟨A,n,c,rfl,by rw [hxs];exact hR'.1,hnc,fun hn=>by
      obtain⟨ad,e,_⟩:=hR'.2 hn
      rw [e];rfl⟩ fun W2 h2=>by
      rw [hxs]
      exact⟨hrd W2 hK (hKf W2 h2),.inr ⟨fun W3 h3=>hps.2.1 W3 h3 _ _ _ hAl,fun B hB=>hps.2.2.1 B hB _ _ _ hAl⟩⟩
    have hwfx:(V.x i q).wf s.ln ρ.length=true:=by
     simp only [V.wf,decide_eq_true_eq];rw [← hA.good.len];exact hi
    have h4:=h3.K8 (p:=p) (u:=.x i q) (v:=.row s.hp.length) (qa (s:=s) (sh:=s.sh++[.any]) hg) (by
     simp only [V.den,h1]
     rw [← hx]
     have:=iu (ρ0:=ρ) (ρ:=ρ++[.agg cells.toArray]) (α:=α) ⟨_,rfl⟩ hwfx
     simp only [V.den]at this
     exact this.symm) (by
     show lv ((s.room 1).ln.set s.hp.length _) s.hp.length=true
     exact po (eh hfr))
    exact dI hps l _ _ k hv ⟨α',h4⟩ fun s' ρ' g1 g2 g3=>h s' ρ' g1 (List.IsPrefix.trans ⟨_,rfl⟩ g2) g3
   simp [VC]at hv
  ·rename_i c hg
   split at hv
   ·rename_i hc
    simp only [Bool.and_eq_true,decide_eq_true_eq]at hc
    obtain⟨α,hA⟩:=hI
    have hrd:∀ W3,Arg.rd W3 ⟨.slice none 0 c,sz,[]⟩:=fun W3=>mZ
    obtain⟨α',h1,h2,h3⟩:=(hA.room 1).KZ (b:=⟨[],0,.ext sz⟩) (eh hc.2) rfl rfl (W':=W) ⟨0,.slice none 0 c,[]⟩ (hA.room 1).st hc.1 ⟨none,0,c,rfl,by simp [ae.xs,ab],Nat.zero_le _,fun h=>absurd h (by omega)⟩ fun W2 h2=>⟨hrd W2,.inr ⟨fun W3 _=>hrd W3,fun B _ ad n c e _=>by cases e⟩⟩
    have h4:=h3.K8 (p:=p) (u:=.k (.slice none 0 c)) (v:=.row s.hp.length) (qa (s:=s) (sh:=s.sh) hg) (by simp only [V.den,h1]) (by
     show lv ((s.room 1).ln.set s.hp.length _) s.hp.length=true
     exact po (eh hc.2))
    exact dI hps l _ ρ k hv ⟨α',h4⟩ h
   simp [VC]at hv
  exact dI hps l s ρ k hv hI h
end
end SX
namespace SX
def bR(base:Nat)(c:Nat→Bool):Nat→List (Oper×cr)→S→S
 | _,[],s=>s
 | i,(o,d)::l,s=>bR base c (i+1) l (if c i then s.cX (base+i) o.dst d.v d.new d.wr else s)
structure eV(slots names snames:List Nat)(s s':S):Prop where
 fr:∀ x∈slots,s.fr[x]?=s'.fr[x]?
 hp:∀ n∈names,s.hp[n]?=s'.hp[n]?
 ln:∀ n∈snames,s.ln[n]?=s'.ln[n]?
structure eY(s s':S):Prop where
 sh:s.sh=s'.sh
 kn:s.kn=s'.kn
 stk:s.stk=s'.stk
 cur:s.cur=s'.cur
 frl:s.fr.length=s'.fr.length
 hpl:s.hp.length=s'.hp.length
 lnl:s.ln.length=s'.ln.length
 lps:s.lps=s'.lps
theorem eY.refl(s:S):eY s s:=⟨rfl,rfl,rfl,rfl,rfl,rfl,rfl,rfl⟩
theorem eY.trans{a b c:S}(h:eY a b)(h':eY b c):eY a c:=⟨h.1.trans h'.1,h.2.trans h'.2,h.3.trans h'.3,h.4.trans h'.4,h.5.trans h'.5,h.6.trans h'.6,h.7.trans h'.7,h.8.trans h'.8⟩
theorem eY.symm{a b:S}(h:eY a b):eY b a:=⟨h.1.symm,h.2.symm,h.3.symm,h.4.symm,h.5.symm,h.6.symm,h.7.symm,h.8.symm⟩
theorem DC(s:S)(d:Option Tmp)(v:V):eY (s.put d v) s:=by
 cases d<;>exact⟨rfl,rfl,rfl,rfl,by simp [S.put],rfl,rfl,rfl⟩
theorem sU(s:S)(n:Nat)(b:ae):eY (s.lay n b) s:=⟨rfl,rfl,rfl,rfl,rfl,by simp [S.lay],rfl,rfl⟩
theorem qg(s:S)(n:Nat)(b:ae):eY (s.make n b) s:=⟨rfl,rfl,rfl,rfl,rfl,by simp [S.make],by simp [S.make],rfl⟩
theorem ee(s:S)(nm:Nat)(d:Option Tmp)(v:V)(new:Option ae)(wr:Option (Nat×ae)):eY (s.cX nm d v new wr) s:=by
 unfold S.cX
 refine(DC _ _ _).trans ?_
 cases wr<;>cases new<;>dsimp only
 ·exact .refl _
 ·exact qg _ _ _
 ·exact sU _ _ _
 exact(sU _ _ _).trans (qg _ _ _)
theorem bN(base:Nat)(c:Nat→Bool):∀ (l:List (Oper×cr))(i:Nat)(s:S),eY (bR base c i l s) s
 | [],_,s=>.refl s
 | (o,d)::l,i,s=>by
  unfold bR
  refine(bN base c l (i+1) _).trans ?_
  split
  ·exact ee ..
  exact .refl s
theorem zn(s:S)(nm:Nat)(d:Option Tmp)(v:V)(new:Option ae)(wr:Option (Nat×ae)):(s.cX nm d v new wr).fr=(s.put d v).fr:=by
 unfold S.cX
 cases wr<;>cases new<;>cases d<;>rfl
def o6(hp:List (Option ae)):Option (Nat×ae)→List (Option ae)
 | some (n,b)=>hp.set n (some b)
 | none=>hp
theorem zo(s:S)(nm:Nat)(d:Option Tmp)(v:V)(new:Option ae)(wr:Option (Nat×ae)):(s.cX nm d v new wr).hp=o6 (o6 s.hp (new.map fun b=>(nm,b))) wr:=by
 unfold S.cX
 cases wr<;>cases new<;>cases d<;>rfl
theorem zp(s:S)(nm:Nat)(d:Option Tmp)(v:V)(new:Option ae)(wr:Option (Nat×ae)):(s.cX nm d v new wr).ln=o6 s.ln (new.map fun b=>(nm,b)):=by
 unfold S.cX
 cases wr<;>cases new<;>cases d<;>rfl
theorem lU{hp:List (Option ae)}{e:Option (Nat×ae)}{n:Nat}(h:n∉(match e with|some (m,_)=>[m]|none=>[])):(o6 hp e)[n]?=hp[n]?:=by
 cases e with
 | none=>rfl
 | some e =>
  simp only [List.mem_singleton]at h
  simp [o6,List.getElem?_set_ne (fun e=>h e.symm)]
theorem xh(hp:List (Option ae))(e:Option (Nat×ae)):(o6 hp e).length=hp.length:=by cases e<;>simp [o6]
theorem pk{hp hp':List (Option ae)}(hl:hp.length=hp'.length){e:Option (Nat×ae)}{n:Nat}(h:hp[n]?=hp'[n]?∨n∈(match e with|some (m,_)=>[m]|none=>[])):(o6 hp e)[n]?=(o6 hp' e)[n]?:=by
 cases e with
 | none=>simpa [o6]using h
 | some e =>
  obtain⟨m,b⟩:=e
  simp only [List.mem_singleton]at h
  by_cases hm:m=n
  ·subst hm;simp [o6,List.getElem?_set,hl]
  simp only [o6]
  rw [List.getElem?_set_ne hm,List.getElem?_set_ne hm]
  exact h.resolve_right fun e=>hm e.symm
theorem tT(nm:Nat)(d:cr):gj nm d=(match d.new.map (fun b=>(nm,b))with|some (m,_)=>[m]|none=>[])++(match d.wr with|some (n,_)=>[n]|none=>[]):=by
 unfold gj
 cases d.new<;>rfl
theorem mv{s:S}{nm:Nat}{d:Option Tmp}{v:V}{new:Option ae}{wr:Option (Nat×ae)}{x:Nat}(h:x∉d.toList):(s.cX nm d v new wr).fr[x]?=s.fr[x]?:=by
 rw [zn]
 cases d with
 | none=>rfl
 | some y =>
  simp only [Option.toList_some,List.mem_singleton]at h
  simp [S.put,List.getElem?_set_ne (fun e=>h e.symm)]
theorem sZ(nm:Nat)(d:cr):fH nm d=(match d.new.map (fun b=>(nm,b))with|some (m,_)=>[m]|none=>[]):=by
 unfold fH
 cases d.new<;>rfl
theorem qk{nm n:Nat}{d:cr}(h:n∈fH nm d):n=nm:=by
 unfold fH at h
 split at h<;>simp at h
 exact h
theorem my{s:S}{nm:Nat}{o:Option Tmp}{d:cr}{n:Nat}(h:n∉fH nm d):(s.cX nm o d.v d.new d.wr).ln[n]?=s.ln[n]?:=by
 rw [sZ]at h
 rw [zp,lU h]
theorem sI{s s':S}(hl:s.ln.length=s'.ln.length){nm:Nat}{o:Option Tmp}{d:cr}{n:Nat}(hold:s.ln[n]?=s'.ln[n]?∨n∈fH nm d):(s.cX nm o d.v d.new d.wr).ln[n]?=(s'.cX nm o d.v d.new d.wr).ln[n]?:=by
 rw [sZ]at hold
 rw [zp,zp]
 exact pk hl hold
theorem mw{s:S}{nm:Nat}{o:Option Tmp}{d:cr}{n:Nat}(h:n∉gj nm d):(s.cX nm o d.v d.new d.wr).hp[n]?=s.hp[n]?:=by
 rw [tT,List.mem_append,not_or]at h
 rw [zo,lU h.2,lU h.1]
theorem sG{s s':S}(hl:s.fr.length=s'.fr.length){nm:Nat}{d:Option Tmp}{v:V}{new:Option ae}{wr:Option (Nat×ae)}{x:Nat}(h:x∈d.toList):(s.cX nm d v new wr).fr[x]?=(s'.cX nm d v new wr).fr[x]?:=by
 rw [zn,zn]
 cases d with
 | none=>simp at h
 | some y =>
  simp only [Option.toList_some,List.mem_singleton]at h
  subst h
  simp [S.put,List.getElem?_set,hl]
theorem sH{s s':S}(hl:s.hp.length=s'.hp.length){nm:Nat}{o:Option Tmp}{d:cr}{n:Nat}(hold:s.hp[n]?=s'.hp[n]?∨n∈gj nm d):(s.cX nm o d.v d.new d.wr).hp[n]?=(s'.cX nm o d.v d.new d.wr).hp[n]?:=by
 rw [zo,zo]
 rw [tT,List.mem_append]at hold
 refine pk (by rw [xh,xh,hl]) ?_
 rcases hold with h|h|h
 ·exact .inl (pk hl (.inl h))
 ·exact .inl (pk hl (.inr h))
 exact .inr h
theorem lO{base:Nat}{c c':Nat→Bool}{x:Nat}:∀ (l:List (Oper×cr))(i:Nat)(s s':S),s.fr.length=s'.fr.length→s.fr[x]?=s'.fr[x]?→(∀ (j:Nat)(o:Oper)(d:cr),l[j]?=some (o,d)→x∈o.dst.toList→c (i+j)=c' (i+j)) →
 (bR base c i l s).fr[x]?=(bR base c' i l s').fr[x]?
 | [],_,_,_,_,h,_=>h
 | (o,d)::l,i,s,s',hl,h,hc=>by
  unfold bR
  refine lO l (i+1) _ _ ?_ ?_ fun j o' d' hj hx=>by
   have:=hc (j+1) o' d' (by simpa using hj) hx
   rwa [show i+(j+1)=i+1+j by omega]at this
  ·split<;>split<;>simp [(ee ..).frl,hl]
  by_cases hx:x∈o.dst.toList
  ·have:=hc 0 o d rfl hx
   rw [Nat.add_zero]at this
   rw [this]
   split
   ·exact sG hl hx
   exact h
  split<;>split<;>(try simp only [mv hx])<;>exact h
theorem lP{base:Nat}{c c':Nat→Bool}{n:Nat}:∀ (l:List (Oper×cr))(i:Nat)(s s':S),s.hp.length=s'.hp.length→s.hp[n]?=s'.hp[n]?→(∀ (j:Nat)(o:Oper)(d:cr),l[j]?=some (o,d)→n∈gj (base+(i+j)) d→c (i+j)=c' (i+j)) →
 (bR base c i l s).hp[n]?=(bR base c' i l s').hp[n]?
 | [],_,_,_,_,h,_=>h
 | (o,d)::l,i,s,s',hl,h,hc=>by
  unfold bR
  refine lP l (i+1) _ _ ?_ ?_ fun j o' d' hj=>by
   have:=hc (j+1) o' d' (by simpa using hj)
   rwa [show i+(j+1)=i+1+j by omega]at this
  ·split<;>split<;>simp [(ee ..).hpl,hl]
  have hx1:=hc 0 o d rfl
  rw [Nat.add_zero]at hx1
  by_cases hx:n∈gj (base+i) d
  ·rw [hx1 hx]
   split
   ·exact sH hl (.inr hx)
   exact h
  split<;>split<;>(try simp only [mw hx])<;>exact h
theorem lQ{base:Nat}{c c':Nat→Bool}{n:Nat}:∀ (l:List (Oper×cr))(i:Nat)(s s':S),s.ln.length=s'.ln.length→s.ln[n]?=s'.ln[n]?→(∀ (j:Nat)(o:Oper)(d:cr),l[j]?=some (o,d)→n∈fH (base+(i+j)) d→c (i+j)=c' (i+j)) →
 (bR base c i l s).ln[n]?=(bR base c' i l s').ln[n]?
 | [],_,_,_,_,h,_=>h
 | (o,d)::l,i,s,s',hl,h,hc=>by
  unfold bR
  refine lQ l (i+1) _ _ ?_ ?_ fun j o' d' hj=>by
   have:=hc (j+1) o' d' (by simpa using hj)
   rwa [show i+(j+1)=i+1+j by omega]at this
  ·split<;>split<;>simp [(ee ..).lnl,hl]
  have hx1:=hc 0 o d rfl
  rw [Nat.add_zero]at hx1
  by_cases hx:n∈fH (base+i) d
  ·rw [hx1 hx]
   split
   ·exact sI hl (.inr hx)
   exact h
  split<;>split<;>(try simp only [my hx])<;>exact h
theorem S.ext'{s s':S}(h:eY s s')(hf:∀ x:Nat,s.fr[x]?=s'.fr[x]?)(hh:∀ n:Nat,s.hp[n]?=s'.hp[n]?)(hn:∀ n:Nat,s.ln[n]?=s'.ln[n]?):s=s':=by
 cases s;cases s'
 obtain⟨h1,h2,h3,h4,h5,h6,h7,h8⟩:=h
 have e1:=List.ext_getElem? hf
 have e2:=List.ext_getElem? hh
 have e3:=List.ext_getElem? hn
 simp only at *
 subst h1;subst h2;subst h3;subst h4;subst h8;subst e1;subst e2;subst e3
 rfl
theorem iJ(base:Nat):∀ (l:List (Oper×cr))(i:Nat)(s:S),bR base (fun _=>false) i l s=s
 | [],_,_=>rfl
 | (o,d)::l,i,s=>by unfold bR;simpa using iJ base l (i+1) s
theorem iK(base:Nat)(c:Nat→Bool):∀ (l m:List (Oper×cr))(i:Nat)(s:S),bR base c i (l++m) s=bR base c (i+l.length) m (bR base c i l s)
 | [],m,i,s=>rfl
 | (o,d)::l,m,i,s=>by
  simp only [List.cons_append,bR,List.length_cons]
  rw [iK base c l m (i+1)]
  congr 1;omega
theorem AZ{base:Nat}{c:Nat→Bool}{l:List (Oper×cr)}{s:S}{i:Nat}{o:Oper}{d:cr}(hi:l[i]?=some (o,d))(hci:c i=false)
 (hfree:∀ (j:Nat) (o':Oper) (d':cr),l[j]?=some (o',d')→c j=true→i<j→(∀ x∈o.dst.toList,x∉o'.dst.toList)∧(∀ n∈gj (base+i) d,n∉gj (base+j) d')∧(∀ n∈fH (base+i) d,n∉fH (base+j) d')) :
 (bR base c 0 l s).cX (base+i) o.dst d.v d.new d.wr=bR base (vP c i) 0 l s:=by
 refine S.ext' ((ee ..).trans ((bN ..).trans (bN ..).symm)) (fun x=>?_) (fun n=>?_) fun n=>?_
 ·have hlt:=(List.getElem?_eq_some_iff.1 hi).1
  have hsp:l=l.take i++(o,d)::l.drop (i+1):=by
   have:=List.getElem?_eq_some_iff.1 hi
   rw [← this.2,List.getElem_cons_drop,List.take_append_drop]
  by_cases hx:x∈o.dst.toList
  ·have hr:(bR base (vP c i) 0 l s).fr[x]?=((bR base (vP c i) 0 (l.take i) s).cX (base+i) o.dst d.v d.new d.wr).fr[x]?:=by
    rw [hsp,iK]
    rw [← hsp,List.length_take,Nat.min_eq_left (by omega),Nat.zero_add]
    simp only [bR,vP,if_true]
    rw [lO (c':=fun _=>false) _ _ _ _ rfl rfl fun j o' d' hj hx'=>?_,iJ]
    have hj':l[i+1+j]?=some (o',d'):=by rw [List.getElem?_drop]at hj;exact hj
    show(if i+1+j=i then true else c (i+1+j))=false
    rw [if_neg (by omega)]
    cases hc:c (i+1+j)with
    | false=>rfl
    | true=>exact absurd hx' ((hfree _ _ _ hj' hc (by omega)).1 x hx)
   rw [hr]
   exact sG (by rw [(bN ..).frl,(bN ..).frl]) hx
  rw [mv hx]
  refine lO l 0 s s rfl rfl fun j o' d' hj hx'=>?_
  rw [Nat.zero_add]
  unfold vP
  split
  ·rename_i e
   subst e
   rw [hi]at hj
   cases hj
   exact absurd hx' hx
  rfl
 ·have hlt:=(List.getElem?_eq_some_iff.1 hi).1
  have hsp:l=l.take i++(o,d)::l.drop (i+1):=by
   have:=List.getElem?_eq_some_iff.1 hi
   rw [← this.2,List.getElem_cons_drop,List.take_append_drop]
  by_cases hx:n∈gj (base+i) d
  ·have hr:(bR base (vP c i) 0 l s).hp[n]?=((bR base (vP c i) 0 (l.take i) s).cX (base+i) o.dst d.v d.new d.wr).hp[n]?:=by
    rw [hsp,iK]
    rw [← hsp,List.length_take,Nat.min_eq_left (by omega),Nat.zero_add]
    simp only [bR,vP,if_true]
    rw [lP (c':=fun _=>false) _ _ _ _ rfl rfl fun j o' d' hj=>?_,iJ]
    have hj':l[i+1+j]?=some (o',d'):=by rw [List.getElem?_drop]at hj;exact hj
    intro hx'
    show(if i+1+j=i then true else c (i+1+j))=false
    rw [if_neg (by omega)]
    cases hc:c (i+1+j)with
    | false=>rfl
    | true=>exact absurd hx' ((hfree _ _ _ hj' hc (by omega)).2.1 n hx)
   rw [hr]
   exact sH (by rw [(bN ..).hpl,(bN ..).hpl]) (.inr hx)
  rw [mw hx]
  refine lP l 0 s s rfl rfl fun j o' d' hj hx'=>?_
  rw [Nat.zero_add]at hx' ⊢
  unfold vP
  split
  ·rename_i e
   subst e
   rw [hi]at hj
   cases hj
   exact absurd hx' hx
  rfl
 have hlt:=(List.getElem?_eq_some_iff.1 hi).1
 have hsp:l=l.take i++(o,d)::l.drop (i+1):=by
  have:=List.getElem?_eq_some_iff.1 hi
  rw [← this.2,List.getElem_cons_drop,List.take_append_drop]
 by_cases hx:n∈fH (base+i) d
 ·have hr:(bR base (vP c i) 0 l s).ln[n]?=((bR base (vP c i) 0 (l.take i) s).cX (base+i) o.dst d.v d.new d.wr).ln[n]?:=by
   rw [hsp,iK]
   rw [← hsp,List.length_take,Nat.min_eq_left (by omega),Nat.zero_add]
   simp only [bR,vP,if_true]
   rw [lQ (c':=fun _=>false) _ _ _ _ rfl rfl fun j o' d' hj=>?_,iJ]
   have hj':l[i+1+j]?=some (o',d'):=by rw [List.getElem?_drop]at hj;exact hj
   intro hx'
   show(if i+1+j=i then true else c (i+1+j))=false
   rw [if_neg (by omega)]
   cases hc:c (i+1+j)with
   | false=>rfl
   | true=>exact absurd hx' ((hfree _ _ _ hj' hc (by omega)).2.2 n hx)
  rw [hr]
  exact sI (by rw [(bN ..).lnl,(bN ..).lnl]) (.inr hx)
 rw [my hx]
 refine lQ l 0 s s rfl rfl fun j o' d' hj hx'=>?_
 rw [Nat.zero_add]at hx' ⊢
 unfold vP
 split
 ·rename_i e
  subst e
  rw [hi]at hj
  cases hj
  exact absurd hx' hx
 rfl
inductive H5 (all:List Oper):Nat→Nat→Prop
 | one {p j:Nat} {o:Oper}:all[j]?=some o→p∈gp o→H5 all p j
 | more {p q j:Nat} {o:Oper}:all[j]?=some o→q∈gp o→H5 all p q→H5 all p j
theorem uc(all:List Oper):∀ (l:List Oper)(acc:List (List Nat)),(∀ j,l[j]?=all[acc.length+j]?)→(∀ j i,i∈acc.getD j []→H5 all i j)→∀ j i,i∈(r5 l acc).getD j []→H5 all i j
 | [],acc,_,h,j,i,hi=>h j i hi
 | o::l,acc,hl,h,j,i,hi=>by
  unfold r5 at hi
  refine uc all l _ (fun k=>?_) (fun k m hm=>?_) j i hi
  ·have:=hl (k+1)
   rw [List.length_append,List.length_singleton,show acc.length+1+k=acc.length+(k+1) by omega,← this]
   simp
  by_cases hk:k<acc.length
  ·rw [List.getD_eq_getElem?_getD,List.getElem?_append_left hk,← List.getD_eq_getElem?_getD]at hm
   exact h k m hm
  rw [List.getD_eq_getElem?_getD,List.getElem?_append_right (by omega)]at hm
  have h0:k-acc.length=0:=by
   rcases Nat.eq_zero_or_pos (k-acc.length)with h0|h0
   ·exact h0
   rw [List.getElem?_eq_none (by simp;omega)]at hm;simp at hm
  rw [h0]at hm
  have hk':k=acc.length:=by omega
  subst hk'
  have ho:all[acc.length]?=some o:=by have:=hl 0;simpa using this.symm
  simp only [List.getElem?_cons_zero,Option.getD_some]at hm
  replace hm:=qh hm
  simp only [List.mem_append,List.mem_flatMap]at hm
  rcases hm with hm|⟨p,hp,hm⟩
  ·exact .one ho hm
  exact .more ho hp (h p m hm)
def eW(all:List Oper)(c:Nat→Bool):Prop:=∀ j o p,all[j]?=some o→c j=true→p∈gp o→c p=true
theorem eW.wa{all:List Oper}{c:Nat→Bool}(h:eW all c){i j:Nat}(ha:H5 all i j):c j=true→c i=true:=by
 induction ha with
 | one ho hp=>exact fun hc=>h _ _ _ ho hc hp
 | more ho hq _ ih=>exact fun hc=>ih (h _ _ _ ho hc hq)
theorem qt{base:Nat}{wa:List (List Nat)}{j:Nat}{o':Oper}{d':cr}:∀ {l:List (Oper×cr)}{i k:Nat}{o:Oper}{d:cr},qs base wa j o' d' i l=true→l[k]?=some (o,d)→conflict base (i+k) j o d o' d'=true→(i+k)∈wa.getD j []
 | [],_,_,_,_,_,h,_=>by simp at h
 | (o0,d0)::l,i,0,o,d,h,hk,hc=>by
  simp only [qs,Bool.and_eq_true,Bool.or_eq_true,Bool.not_eq_true']at h
  obtain⟨rfl,rfl⟩:o0=o∧d0=d:=by simpa using hk
  rcases h.1 with h1|h1
  ·rw [Nat.add_zero,h1]at hc;cases hc
  simpa using h1
 | (o0,d0)::l,i,k+1,o,d,h,hk,hc=>by
  simp only [qs,Bool.and_eq_true]at h
  have:=qt (k:=k) h.2 (by simpa using hk) (by rwa [show i+1+k=i+(k+1) by omega])
  rwa [show i+1+k=i+(k+1) by omega]at this
theorem fX{base:Nat}{wa:List (List Nat)}:∀ {l pre:List (Oper×cr)},mU base wa pre l=true→∀ {i j:Nat}{o o':Oper}{d d':cr},(pre++l)[i]?=some (o,d)→l[j]?=some (o',d')→i<pre.length+j→conflict base i (pre.length+j) o d o' d'=true→i∈wa.getD (pre.length+j) []
 | [],_,_,_,_,_,_,_,_,_,h,_,_=>by simp at h
 | (o0,d0)::l,pre,h,i,j,o,o',d,d',hi,hj,hlt,hc=>by
  simp only [mU,Bool.and_eq_true]at h
  cases j with
  | zero =>
   obtain⟨rfl,rfl⟩:o0=o'∧d0=d':=by simpa using hj
   rw [Nat.add_zero]at hlt hc ⊢
   have:=qt (i:=0) (k:=i) h.1 (by rw [← hi,List.getElem?_append_left hlt]) (by rwa [Nat.zero_add])
   rwa [Nat.zero_add]at this
  | succ j =>
   have:=fX (l:=l) (pre:=pre++[(o0,d0)]) h.2 (i:=i) (j:=j) (o:=o) (o':=o') (d:=d) (d':=d') (by simpa using hi) (by simpa using hj) (by simp;omega) (by simpa [show pre.length+1+j=pre.length+(j+1) by omega]using hc)
   simpa [show pre.length+1+j=pre.length+(j+1) by omega]using this
theorem jn:∀ {l:List Oper}{i:Nat},pO i l=true→∀ {j:Nat}{o:Oper}{p:Nat},l[j]?=some o→p∈gp o→p<i+j
 | [],_,_,_,_,_,h,_=>by simp at h
 | o0::l,i,h,j,o,p,hj,hp=>by
  simp only [pO,Bool.and_eq_true]at h
  cases j with
  | zero =>
   obtain rfl:o0=o:=by simpa using hj
   have:=List.all_eq_true.1 h.1 p hp
   simpa using this
  | succ j =>
   have:=jn (j:=j) h.2 (by simpa using hj) hp
   omega
theorem k5{o:Oper}{p:Nat}:p∈gp o↔∃ e∈o.after,Region.binds .any e=true∧e.on=p:=by
 simp [gp,and_assoc]
theorem cu{l m:List Nat}(h:meets l m=false):∀ x∈l,x∉m:=fun x hx hm=>by
 have:meets l m=true:=List.any_eq_true.2 ⟨x,hx,by simpa using hm⟩
 rw [h]at this
 cases this
section
variable {C:Cx}{w0:eT}{ps:List (World→Prop)}{T:List TF}{ρ:List Value}{Q:Exit→Act→World→Prop}
theorem o4{F:Fence}{m:Nat}{P:Program}{ops:Array Oper}{md:Region.Mode}(I:Array Bool→Act→World→Prop)
 (hstep:∀ listed a w i,listed.size=ops.size→I listed a w→i∈Region.ready md ops listed→wpOpIn F m P ops Q i (fun a' w'=>I (listed.setIfInBounds i true) a' w') a w)
 (hend:∀ listed a w,listed.size=ops.size→I listed a w→Region.ready md ops listed=[]→Q .normal a w) :
 ∀ fuel listed a w,listed.size=ops.size→(listed.toList.filter (! ·)).length≤fuel→I listed a w→wpAnyIn F m P md ops Q fuel listed a w:=by
 intro fuel
 induction fuel with
 | zero =>
  intro listed a w hs hc hI
  have hr:Region.ready md ops listed=[]:=by
   rw [Region.ready,List.filter_eq_nil_iff]
   intro i hi
   have hi':i<listed.size:=by rw [hs];simpa using hi
   have:listed[i]=true:=by
    cases hb:listed[i]with
    | true=>rfl
    | false =>
     exfalso
     have hm:false∈listed.toList.filter (! ·):=by
      rw [List.mem_filter]
      exact⟨by rw [← hb];exact Array.getElem_mem_toList hi',rfl⟩
     have:=List.length_pos_of_mem hm
     omega
   simp [Array.getD,hi',this]
  exact⟨hr,hend _ _ _ hs hI hr⟩
 | succ fuel ih =>
  intro listed a w hs hc hI
  refine⟨fun h0=>hend _ _ _ hs hI h0,fun i hi=>wpOpIn_mono (fun a' w' h'=>?_) (hstep listed a w i hs hI hi)⟩
  refine ih _ _ _ (by simpa using hs) ?_ h'
  have hi1:i<ops.size∧listed.getD i true=false:=by
   rw [Region.ready,List.mem_filter]at hi
   exact⟨by simpa using hi.1,by have:=hi.2;simp only [Bool.and_eq_true,Bool.not_eq_true']at this;exact this.1⟩
  have hlt:i<listed.toList.length:=by simp [hs,hi1.1]
  have hf:listed.toList[i]=false:=by
   have h2:=hi1.2
   simp only [Array.getD,show i<listed.size by omega,dif_pos]at h2
   simpa using h2
  have:=count_set listed.toList i hlt hf
  rw [Array.toList_setIfInBounds]
  omega
def tZ(C:Cx)(rr:Option Nat)(w0:eT)(ps:List (World→Prop))(T:List TF)(ρ:List Value)(Q:Exit→Act→World→Prop)(all:Array Oper)(nm:Nat)(o:Oper)(d:cr)(pre:S):Prop :=
 ∀ (s:S) (a:Act) (W:World) (K:Act→World→Prop),eY s pre→eV d.slots (nm::d.names) (nm::d.snames) s pre→Inv w0 ps T ρ s a W→(∀ a' W',Inv w0 ps T ρ (s.cX nm o.dst d.v d.new d.wr) a' W'→K a' W') →
  if Region.wanted o (yielded all a.tmps)=true then o.wpIn (FW rr) 0 C.P a W K Q else K (a.put o.dst undef) W
theorem wR{rr:Option Nat}{id:Nat}{l:List Oper}{ds:List cr}{base:Nat}{s0:S}{a:Act}{W:World}(hm:C.P.follows .mixedOrders=true)(hord:uU base l ds=true)
 (hst:∀ (i:Nat) (o:Oper) (d:cr),(l.zip ds)[i]?=some (o,d)→tZ C rr w0 ps T ρ Q l.toArray (base+i) o d (bR base (fun j=>decide (j<i)) 0 (l.zip ds) s0)) (hI:Inv w0 ps T ρ s0 a W)
 (hK:∀ a' W',Inv w0 ps T ρ (bR base (fun _=>true) 0 (l.zip ds) s0) a' W'→Q .normal a' W'):jX rr C.P (Code.region id l.toArray true) Q a W:=by
 simp only [uU,Bool.and_eq_true,decide_eq_true_eq]at hord
 obtain⟨⟨hback,hlen⟩,hpairs⟩:=hord
 have hanc:∀ j i,i∈(r5 l []).getD j []→H5 l i j:=uc l l [] (by simp) (by simp)
 have hzip:∀ i o,l[i]?=some o→∃ d,(l.zip ds)[i]?=some (o,d):=fun i o ho=>by
  have h1:=(List.getElem?_eq_some_iff.1 ho).1
  exact⟨ds[i]'(by omega),List.getElem?_zip_eq_some.2 ⟨ho,List.getElem?_eq_getElem _⟩⟩
 have hzl:∀ i o d,(l.zip ds)[i]?=some (o,d)→l[i]?=some o:=fun i o d h=>(List.getElem?_zip_eq_some.1 h).1
 have hfree:∀ {c:Nat→Bool} {i j:Nat} {o o':Oper} {d d':cr},eW l c→c i=false→c j=true→(l.zip ds)[i]?=some (o,d)→(l.zip ds)[j]?=some (o',d')→i<j→conflict base i j o d o' d'=false:=fun {c i j o o' d d'} hc hi hj ho ho' hlt=>by
  cases hq:conflict base i j o d o' d' with
  | false=>rfl
  | true =>
   have:=fX hpairs (i:=i) (j:=j) ho ho' (by simpa using hlt) (by simpa using hq)
   have h2:=hc.wa (hanc _ _ (by simpa using this)) hj
   rw [hi]at h2;cases h2
 have hbefore:∀ {i j:Nat} {o o':Oper} {d d':cr} {c:Nat→Bool},(l.zip ds)[i]?=some (o,d)→(l.zip ds)[j]?=some (o',d')→j<i→(∀ p∈gp o,c p=true)→eW l c→c j=false→conflict base j i o' d' o d=false:=fun {i j o o' d d' c} ho ho' hlt hp hc hj=>by
  cases hq:conflict base j i o' d' o d with
  | false=>rfl
  | true =>
   have:=hanc _ _ (by simpa using fX hpairs (i:=j) (j:=i) ho' ho (by simpa using hlt) (by simpa using hq))
   exfalso
   have key:c j=true:=by
    cases this with
    | one ho2 hp2=>rw [hzl _ _ _ ho]at ho2;cases ho2;exact hp _ hp2
    | more ho2 hq2 ha=>rw [hzl _ _ _ ho]at ho2;cases ho2;exact hc.wa ha (hp _ hq2)
   rw [hj]at key;cases key
 refine wpIn_region_any hm (o4 (fun listed b W=>eW l (fun i=>listed.getD i false)∧Inv w0 ps T ρ (bR base (fun i=>listed.getD i false) 0 (l.zip ds) s0) b W) ?_ ?_ l.toArray.size _ _ _ (by simp) ?_ ?_)
 ·rintro listed b W i hs ⟨hcl,hinv⟩ hi
  obtain⟨hu,o,ho,hpre⟩:=mem_ready.1 hi
  have hol:l[i]?=some o:=by simpa using ho
  obtain⟨d,hd⟩:=hzip i o hol
  have hci:listed.getD i false=false:=getD_both hu
  have hpreds:∀ p∈gp o,listed.getD p false=true:=fun p hp=>by
   obtain⟨e,he,hb,rfl⟩:=k5.1 hp
   exact hpre e he hb
  have hstep:=hst i o d hd
  have hagree:eV d.slots ((base+i)::d.names) ((base+i)::d.snames) (bR base (fun i=>listed.getD i false) 0 (l.zip ds) s0) (bR base (fun j=>decide (j<i)) 0 (l.zip ds) s0):=by
   refine⟨fun x hx=>lO _ 0 s0 s0 rfl rfl fun j o' d' hj hx'=>?_,fun n hn=>lP _ 0 s0 s0 rfl rfl fun j o' d' hj hx'=>?_,fun n hn=>lQ _ 0 s0 s0 rfl rfl fun j o' d' hj hx'=>?_⟩
   ·rw [Nat.zero_add]
    rcases Nat.lt_trichotomy j i with hlt|rfl|hgt
    ·have h3:decide (j<i)=true:=by simpa using hlt
     rw [h3]
     cases hq:listed.getD j false with
     | true=>rfl
     | false =>
      have:=hbefore (c:=fun i=>listed.getD i false) hd hj hlt hpreds hcl hq
      simp only [conflict,Bool.or_eq_false_iff]at this
      exact absurd (List.mem_append_left _ hx) (cu this.1.1.1.1.1 x hx')
    ·rw [hci];simp
    have h3:decide (j<i)=false:=by simp;omega
    rw [h3]
    cases hq:listed.getD j false with
    | false=>rfl
    | true =>
     have:=hfree (c:=fun i=>listed.getD i false) hcl hci hq hd hj hgt
     simp only [conflict,Bool.or_eq_false_iff]at this
     exact absurd hx (cu this.1.1.1.1.2 x hx')
   ·rw [Nat.zero_add]at hx' ⊢
    rcases Nat.lt_trichotomy j i with hlt|rfl|hgt
    ·have h3:decide (j<i)=true:=by simpa using hlt
     rw [h3]
     cases hq:listed.getD j false with
     | true=>rfl
     | false =>
      have:=hbefore (c:=fun i=>listed.getD i false) hd hj hlt hpreds hcl hq
      simp only [conflict,Bool.or_eq_false_iff]at this
      refine absurd ?_ (cu this.1.1.1.2 n hx')
      rcases List.mem_cons.1 hn with rfl|hn
      ·simp
      simp [hn]
    ·rw [hci];simp
    have h3:decide (j<i)=false:=by simp;omega
    rw [h3]
    cases hq:listed.getD j false with
    | false=>rfl
    | true =>
     have:=hfree (c:=fun i=>listed.getD i false) hcl hci hq hd hj hgt
     simp only [conflict,Bool.or_eq_false_iff]at this
     refine absurd ?_ (cu this.1.1.2 n hx')
     rcases List.mem_cons.1 hn with rfl|hn
     ·simp
     simp [hn]
   rw [Nat.zero_add]at hx' ⊢
   rcases Nat.lt_trichotomy j i with hlt|rfl|hgt
   ·have h3:decide (j<i)=true:=by simpa using hlt
    rw [h3]
    cases hq:listed.getD j false with
    | true=>rfl
    | false =>
     have:=hbefore (c:=fun i=>listed.getD i false) hd hj hlt hpreds hcl hq
     simp only [conflict,Bool.or_eq_false_iff]at this
     refine absurd ?_ (cu this.1.2 n hx')
     rcases List.mem_cons.1 hn with rfl|hn
     ·simp
     simp [hn]
   ·rw [hci];simp
   have h3:decide (j<i)=false:=by simp;omega
   rw [h3]
   cases hq:listed.getD j false with
   | false=>rfl
   | true =>
    have:=hfree (c:=fun i=>listed.getD i false) hcl hci hq hd hj hgt
    simp only [conflict,Bool.or_eq_false_iff]at this
    refine absurd ?_ (cu this.2 n hx')
    rcases List.mem_cons.1 hn with rfl|hn
    ·simp
    simp [hn]
  have hsame:eY (bR base (fun i=>listed.getD i false) 0 (l.zip ds) s0) (bR base (fun j=>decide (j<i)) 0 (l.zip ds) s0) :=
   (bN ..).trans (bN ..).symm
  have hfin:=hstep _ b W (fun a' w'=>eW l (fun j=>(listed.setIfInBounds i true).getD j false)∧Inv w0 ps T ρ (bR base (fun j=>(listed.setIfInBounds i true).getD j false) 0 (l.zip ds) s0) a' w') hsame hagree hinv fun a' W' h=>by
   have hmask:(fun j=>(listed.setIfInBounds i true).getD j false)=vP (fun j=>listed.getD j false) i:=by
    funext j
    unfold vP
    by_cases e:j=i
    ·subst e
     have hlt:j<listed.size:=by rw [hs];simpa using (List.getElem?_eq_some_iff.1 hol).1
     simp [Array.getD_eq_getD_getElem?,hlt]
    rw [if_neg e,getD_set_ne false (fun h=>e h.symm)]
   refine⟨?_,?_⟩
   ·rw [hmask]
    intro j o' p hj hcj hp
    unfold vP at hcj ⊢
    by_cases e:p=i
    ·rw [if_pos e]
    rw [if_neg e]
    by_cases e2:j=i
    ·subst e2
     rw [hol]at hj;cases hj
     exact hpreds p hp
    rw [if_neg e2]at hcj
    exact hcl j o' p hj hcj hp
   rw [hmask,← AZ hd hci fun j o' d' hj hcj hlt=>?_]
   ·exact h
   ·have:=hfree (c:=fun i=>listed.getD i false) hcl hci hcj hd hj hlt
    simp only [conflict,Bool.or_eq_false_iff]at this
    exact⟨fun x hx hx'=>cu this.1.1.1.1.1 x hx (List.mem_append_right _ hx'),fun n hn hn'=>cu this.1.1.1.2 n hn (by simp [hn']),fun n hn hn'=>cu this.1.2 n hn (by simp [qk hn'])⟩
  unfold wpOpIn
  rw [ho]
  dsimp only
  split
  ·rename_i hw;rw [if_pos hw]at hfin;exact hfin
  rename_i hw;rw [if_neg hw]at hfin;exact⟨fun _ _=>trivial,hfin⟩
 ·rintro listed b W hs ⟨hcl,hinv⟩ hr
  have hall:∀ i,i<l.length→listed.getD i false=true:=by
   intro i
   induction i using Nat.strongRecOn with
   | ind i ih =>
    intro hi
    cases hb:listed.getD i false with
    | true=>rfl
    | false =>
     exfalso
     have hm:i∈Region.ready .any l.toArray listed:=by
      refine mem_ready.2 ⟨getD_in (by rw [hs];simpa using hi) hb,l[i],by simp [hi],fun e he hbd=>?_⟩
      have:=jn hback (List.getElem?_eq_getElem hi) (k5.2 ⟨e,he,hbd,rfl⟩)
      rw [Nat.zero_add]at this
      exact ih e.on this (by omega)
     rw [hr]at hm
     cases hm
  have he:bR base (fun i=>listed.getD i false) 0 (l.zip ds) s0=bR base (fun _=>true) 0 (l.zip ds) s0:=by
   refine S.ext' ((bN ..).trans (bN ..).symm) (fun x=>lO _ 0 s0 s0 rfl rfl fun j o' d' hj _=>?_) (fun n=>lP _ 0 s0 s0 rfl rfl fun j o' d' hj _=>?_) fun n=>lQ _ 0 s0 s0 rfl rfl fun j o' d' hj _=>?_
   all_goals
    rw [Nat.zero_add]
    exact hall j (List.getElem?_eq_some_iff.1 (hzl _ _ _ hj)).1
  rw [he]at hinv
  exact hK _ _ hinv
 ·rw [Array.toList_replicate];exact Nat.le_trans (List.length_filter_le _ _) (by simp)
 have hz:(fun i=>(Array.replicate l.toArray.size false).getD i false)=fun _=>false:=funext fun i=>getD_replicate_false _ _
 refine⟨(by rw [hz];exact fun j o p _ hc _=>nomatch hc),?_⟩
 have:bR base (fun i=>(Array.replicate l.toArray.size false).getD i false) 0 (l.zip ds) s0=s0:=by
  rw [hz,iJ]
 rw [this]
 exact hI.step ((Below.refl _ _).drew)
theorem HZ{rr:Option Nat}{P:Program}{o:Oper}{all:Array Oper}{y:Nat}{v:Value}{b:Act}{W:World}{K:Act→World→Prop}(hp:uW o.op=true)(hy:y∉o.looksAt all)(hyd:o.dst≠some y)(hQ:∀ c a w,¬ Q (.panic c) a w)
 (h:o.wpIn (FW rr) 0 P (b.put (some y) v) W K Q):o.wpIn (FW rr) 0 P b W (fun a W=>K (a.put (some y) v) W) Q:=by
 have hs:∀ cs b,o.op≠.select cs b:=fun cs b e=>by rw [e]at hp;cases hp
 have hd:∀ c,o.op≠.defer c:=fun c e=>by rw [e]at hp;cases hp
 refine⟨fun _ _=>trivial,?_⟩
 have h:=h.2
 rw [Oper.semAt_eq _ _ _ hd,execOp_put (ops:=all) o hs b (some y) v (fun d e=>by cases e;exact hy)]at h
 rw [Oper.semAt_eq _ _ _ hd]
 have hc:∀ (a:Act) u,(a.put (some y) v).put o.dst u=(a.put o.dst u).put (some y) v:=fun a u=>Act.put_comm a v u fun d e=>by cases e;exact hyd
 generalize (execOp b.eval o).run P W=r at h ⊢
 cases r with
 | ok x w' =>
  cases x<;>simp only [Oper.uponIn]at h ⊢
  case value u=>rw [← hc];exact h
  case skip=>rw [← hc];exact h
  case defer d=>rw [← hc,← Act.put_defers];exact h
  case enter f as'=>exact⟨h.1,CallsIn.mono h.2 fun e w'' he=>by cases e<;>first|(show K _ _;rw [← hc];exact he)|exact(hQ _ _ _ he).elim|exact he⟩
  case row f as'=>exact⟨h.1,RowsIn.mono h.2 fun e w'' he=>by rw [← hc];exact he⟩
  case round l f t as' bd=>exact⟨h.1,RoundIn.mono h.2 fun e w'' he=>by cases e<;>first|(show K _ _;rw [← hc];exact he)|exact(hQ _ _ _ he).elim|exact he⟩
  all_goals exact h
 | halt x w'=>cases x<;>simp only [Oper.uponIn]at h ⊢<;>first|exact(hQ _ _ _ h).elim|exact h
theorem tW{rr:Option Nat}{P:Program}{o:Oper}{x y:Nat}{b:Act}{W:World}{K:Act→World→Prop}(hm:jC o=some (x,y)):o.wpIn (FW rr) 0 P b W K Q↔K (b.put (some y) (b.eval (.tmp x))) W:=by
 obtain⟨dst,op,ty,pos,aft,g⟩:=o
 unfold jC at hm
 split at hm
 ·rename_i hg ho hd
  cases hm
  simp only at hg ho hd
  subst hg;subst ho;subst hd
  unfold Oper.wpIn
  rw [Oper.semAt_eq _ _ _ (by intro c e;cases e)]
  simp only [execOp]
  exact⟨fun h=>h.2,fun h=>⟨fun _ _=>trivial,h⟩⟩
 cases hm
theorem lG{o:Oper}{x y:Nat}(hm:jC o=some (x,y))(l:Nat→Option Bool):Region.wanted o l=true:=by
 unfold jC at hm
 split at hm
 ·rename_i hg _ _
  simp [Region.wanted,hg]
 cases hm
theorem kd{listed:Array Bool}{i k:Nat}(h:i<listed.size):(listed.setIfInBounds i true).getD k false=if k=i then true else listed.getD k false:=by
 by_cases e:k=i
 ·subst e
  simp [Array.getD_eq_getD_getElem?,h]
 rw [if_neg e,getD_set_ne false (fun h=>e h.symm)]
theorem ED{rr:Option Nat}{P:Program}{o:Oper}{b:Act}{W:World}{K K':Act→World→Prop}(hp:uW o.op=true)(h:o.wpIn (FW rr) 0 P b W K Q)(hk:∀ u ds' W',K (({ b with defers:=ds' }:Act).put o.dst u) W'→K' (({ b with defers:=ds' }:Act).put o.dst u) W'):o.wpIn (FW rr) 0 P b W K' Q:=by
 refine⟨h.1,?_⟩
 have h:=h.2
 generalize (o.semAt (FW rr).round b.eval).run P W=r at h ⊢
 cases r with
 | ok x w' =>
  cases x<;>simp only [Oper.uponIn]at h ⊢
  case value u=>exact hk u b.defers w' h
  case skip=>exact hk undef b.defers w' h
  case defer d=>exact hk undef (d::b.defers) w' h
  case enter f as'=>exact⟨h.1,CallsIn.mono h.2 fun e w'' he=>by cases e<;>first|exact hk _ b.defers _ he|exact he⟩
  case row f as'=>exact⟨h.1,RowsIn.mono h.2 fun e w'' he=>hk _ b.defers _ he⟩
  case round l f t as' bd=>exact⟨h.1,RoundIn.mono h.2 fun e w'' he=>by cases e<;>first|exact hk _ b.defers _ he|exact he⟩
  all_goals exact h
 | halt x w'=>cases x<;>simp only [Oper.uponIn]at h ⊢<;>exact h
theorem List.fD{l:List Nat}{x:Nat}:l.contains x=false↔x∉l:=by
 rw [← Bool.not_eq_true,List.contains_iff_mem]
theorem CN{rr:Option Nat}{id:Nat}{l:List Oper}{ds:List cr}{base:Nat}{s0:S}{a:Act}{W:World}(hm:C.P.follows .mixedOrders=true)(hQ:∀ c a w,¬ Q (.panic c) a w)(hord:vt base l ds=true)
 (hst:∀ (i:Nat) (o:Oper) (d:cr),(l.zip ds)[i]?=some (o,d)→tZ C rr w0 ps T ρ Q l.toArray (base+i) o d (bR base (fun j=>decide (j<i)) 0 (l.zip ds) s0)) (hI:Inv w0 ps T ρ s0 a W)
 (hK:∀ a' W',Inv w0 ps T ρ (bR base (fun _=>true) 0 (l.zip ds) s0) a' W'→eN rr C.P l.toArray Q (l.drop ds.length) a' W'):jX rr C.P (Code.region id l.toArray true) Q a W:=by
 simp only [vt,Bool.and_eq_true,decide_eq_true_eq]at hord
 obtain⟨⟨⟨hback,hlen⟩,hpairs⟩,hlast⟩:=hord
 rw [List.all_eq_true]at hlast
 have hanc:∀ j i,i∈(r5 l []).getD j []→H5 l i j:=uc l l [] (by simp) (by simp)
 have hzip:∀ i o,i<ds.length→l[i]?=some o→∃ d,(l.zip ds)[i]?=some (o,d):=fun i o hid ho=>by
  have h1:=(List.getElem?_eq_some_iff.1 ho).1
  exact⟨ds[i]'(by omega),List.getElem?_zip_eq_some.2 ⟨ho,List.getElem?_eq_getElem _⟩⟩
 have hzl:∀ i o d,(l.zip ds)[i]?=some (o,d)→l[i]?=some o:=fun i o d h=>(List.getElem?_zip_eq_some.1 h).1
 have hfree:∀ {c:Nat→Bool} {i j:Nat} {o o':Oper} {d d':cr},eW l c→c i=false→c j=true→(l.zip ds)[i]?=some (o,d)→(l.zip ds)[j]?=some (o',d')→i<j→conflict base i j o d o' d'=false:=fun {c i j o o' d d'} hc hi hj ho ho' hlt=>by
  cases hq:conflict base i j o d o' d' with
  | false=>rfl
  | true =>
   have:=fX hpairs (i:=i) (j:=j) ho ho' (by simpa using hlt) (by simpa using hq)
   have h2:=hc.wa (hanc _ _ (by simpa using this)) hj
   rw [hi]at h2;cases h2
 have hbefore:∀ {i j:Nat} {o o':Oper} {d d':cr} {c:Nat→Bool},(l.zip ds)[i]?=some (o,d)→(l.zip ds)[j]?=some (o',d')→j<i→(∀ p∈gp o,c p=true)→eW l c→c j=false→conflict base j i o' d' o d=false:=fun {i j o o' d d' c} ho ho' hlt hp hc hj=>by
  cases hq:conflict base j i o' d' o d with
  | false=>rfl
  | true =>
   have:=hanc _ _ (by simpa using fX hpairs (i:=j) (j:=i) ho' ho (by simpa using hlt) (by simpa using hq))
   exfalso
   have key:c j=true:=by
    cases this with
    | one ho2 hp2=>rw [hzl _ _ _ ho]at ho2;cases ho2;exact hp _ hp2
    | more ho2 hq2 ha=>rw [hzl _ _ _ ho]at ho2;cases ho2;exact hc.wa ha (hp _ hq2)
   rw [hj]at key;cases key
 let c0:Array Bool→Nat→Bool:=fun listed i=>listed.getD i false
 have hagr:∀ {listed:Array Bool} {i:Nat} {o:Oper} {d:cr},(l.zip ds)[i]?=some (o,d)→listed.getD i false=false→(∀ p∈gp o,listed.getD p false=true)→eW l (fun i=>listed.getD i false) →
  eV d.slots ((base+i)::d.names) ((base+i)::d.snames) (bR base (fun i=>listed.getD i false) 0 (l.zip ds) s0) (bR base (fun j=>decide (j<i)) 0 (l.zip ds) s0)∧eY (bR base (fun i=>listed.getD i false) 0 (l.zip ds) s0) (bR base (fun j=>decide (j<i)) 0 (l.zip ds) s0):=by
  intro listed i o d hd hci hpreds hcl
  have hagree:eV d.slots ((base+i)::d.names) ((base+i)::d.snames) (bR base (fun i=>listed.getD i false) 0 (l.zip ds) s0) (bR base (fun j=>decide (j<i)) 0 (l.zip ds) s0):=by
   refine⟨fun x hx=>lO _ 0 s0 s0 rfl rfl fun j o' d' hj hx'=>?_,fun n hn=>lP _ 0 s0 s0 rfl rfl fun j o' d' hj hx'=>?_,fun n hn=>lQ _ 0 s0 s0 rfl rfl fun j o' d' hj hx'=>?_⟩
   ·rw [Nat.zero_add]
    rcases Nat.lt_trichotomy j i with hlt|rfl|hgt
    ·have h3:decide (j<i)=true:=by simpa using hlt
     rw [h3]
     cases hq:listed.getD j false with
     | true=>rfl
     | false =>
      have:=hbefore (c:=fun i=>listed.getD i false) hd hj hlt hpreds hcl hq
      simp only [conflict,Bool.or_eq_false_iff]at this
      exact absurd (List.mem_append_left _ hx) (cu this.1.1.1.1.1 x hx')
    ·rw [hci];simp
    have h3:decide (j<i)=false:=by simp;omega
    rw [h3]
    cases hq:listed.getD j false with
    | false=>rfl
    | true =>
     have:=hfree (c:=fun i=>listed.getD i false) hcl hci hq hd hj hgt
     simp only [conflict,Bool.or_eq_false_iff]at this
     exact absurd hx (cu this.1.1.1.1.2 x hx')
   ·rw [Nat.zero_add]at hx' ⊢
    rcases Nat.lt_trichotomy j i with hlt|rfl|hgt
    ·have h3:decide (j<i)=true:=by simpa using hlt
     rw [h3]
     cases hq:listed.getD j false with
     | true=>rfl
     | false =>
      have:=hbefore (c:=fun i=>listed.getD i false) hd hj hlt hpreds hcl hq
      simp only [conflict,Bool.or_eq_false_iff]at this
      refine absurd ?_ (cu this.1.1.1.2 n hx')
      rcases List.mem_cons.1 hn with rfl|hn
      ·simp
      simp [hn]
    ·rw [hci];simp
    have h3:decide (j<i)=false:=by simp;omega
    rw [h3]
    cases hq:listed.getD j false with
    | false=>rfl
    | true =>
     have:=hfree (c:=fun i=>listed.getD i false) hcl hci hq hd hj hgt
     simp only [conflict,Bool.or_eq_false_iff]at this
     refine absurd ?_ (cu this.1.1.2 n hx')
     rcases List.mem_cons.1 hn with rfl|hn
     ·simp
     simp [hn]
   rw [Nat.zero_add]at hx' ⊢
   rcases Nat.lt_trichotomy j i with hlt|rfl|hgt
   ·have h3:decide (j<i)=true:=by simpa using hlt
    rw [h3]
    cases hq:listed.getD j false with
    | true=>rfl
    | false =>
     have:=hbefore (c:=fun i=>listed.getD i false) hd hj hlt hpreds hcl hq
     simp only [conflict,Bool.or_eq_false_iff]at this
     refine absurd ?_ (cu this.1.2 n hx')
     rcases List.mem_cons.1 hn with rfl|hn
     ·simp
     simp [hn]
   ·rw [hci];simp
   have h3:decide (j<i)=false:=by simp;omega
   rw [h3]
   cases hq:listed.getD j false with
   | false=>rfl
   | true =>
    have:=hfree (c:=fun i=>listed.getD i false) hcl hci hq hd hj hgt
    simp only [conflict,Bool.or_eq_false_iff]at this
    refine absurd ?_ (cu this.2 n hx')
    rcases List.mem_cons.1 hn with rfl|hn
    ·simp
    simp [hn]
  have hsame:eY (bR base (fun i=>listed.getD i false) 0 (l.zip ds) s0) (bR base (fun j=>decide (j<i)) 0 (l.zip ds) s0) :=
   (bN ..).trans (bN ..).symm
  exact⟨hagree,hsame⟩
 have hadd:∀ {listed:Array Bool} {i:Nat} {o:Oper} {d:cr},(l.zip ds)[i]?=some (o,d)→listed.getD i false=false→i<listed.size→eW l (fun i=>listed.getD i false) →
  (bR base (fun i=>listed.getD i false) 0 (l.zip ds) s0).cX (base+i) o.dst d.v d.new d.wr=bR base (fun j=>(listed.setIfInBounds i true).getD j false) 0 (l.zip ds) s0:=by
  intro listed i o d hd hci hlt hcl
  have hmask:(fun j=>(listed.setIfInBounds i true).getD j false)=vP (fun j=>listed.getD j false) i:=by
   funext j
   rw [kd hlt]
   rfl
  rw [hmask,← AZ hd hci fun j o' d' hj hcj hlt=>?_]
  have:=hfree (c:=fun i=>listed.getD i false) hcl hci hcj hd hj hlt
  simp only [conflict,Bool.or_eq_false_iff]at this
  exact⟨fun x hx hx'=>cu this.1.1.1.1.1 x hx (List.mem_append_right _ hx'),fun n hn hn'=>cu this.1.1.1.2 n hn (by simp [hn']),fun n hn hn'=>cu this.1.2 n hn (by simp [qk hn'])⟩
 have happ:∀ {c:Nat→Bool},(∀ j,j<ds.length→c j=true)→bR base c 0 (l.zip ds) s0=bR base (fun _=>true) 0 (l.zip ds) s0:=by
  intro c hc
  refine S.ext' ((bN ..).trans (bN ..).symm) (fun x=>lO _ 0 s0 s0 rfl rfl fun j o' d' hj _=>?_) (fun n=>lP _ 0 s0 s0 rfl rfl fun j o' d' hj _=>?_) fun n=>lQ _ 0 s0 s0 rfl rfl fun j o' d' hj _=>?_
  all_goals
   rw [Nat.zero_add]
   have h9:=(List.getElem?_eq_some_iff.1 hj).1
   rw [List.length_zip]at h9
   exact hc j (by omega)
 obtain⟨f,hf⟩:∃ f,((List.range ds.length).find? fun i=>!((r5 l []).getD ds.length []).contains i)=f:=⟨_,rfl⟩
 rw [hf]at hlast
 have hwait:∀ {i k:Nat},ds.length≤k→k<l.length→i<k→H5 l i k∨(f=some i∧zK l i k=true):=fun {i k} h1 h2 h3=>by
  have h4:=hlast (k-ds.length) (List.mem_range.2 (by omega))
  rw [List.all_eq_true]at h4
  have h5:=h4 i (List.mem_range.2 (by omega))
  rw [show ds.length+(k-ds.length)=k by omega]at h5
  simp only [Bool.or_eq_true,Bool.and_eq_true,beq_iff_eq,List.contains_iff_mem]at h5
  rcases h5 with h5|h5
  ·exact .inl (hanc _ _ h5)
  exact .inr h5
 have hfm:∀ {i:Nat},f=some i→i<ds.length:=fun {i} h=>by
  rw [← hf]at h
  exact List.mem_range.1 (List.mem_of_find?_eq_some h)
 have hdrop:∀ {k:Nat} {o:Oper},l[k]?=some o→l.drop k=o::l.drop (k+1):=fun {k o} h=>by
  rw [List.drop_eq_getElem_cons (List.getElem?_eq_some_iff.1 h).1,(List.getElem?_eq_some_iff.1 h).2]
 have hup:∀ {listed:Array Bool} {i j:Nat} {o:Oper},l[i]?=some o→(∀ p∈gp o,listed.getD p false=true)→eW l (fun i=>listed.getD i false)→H5 l j i→listed.getD j false=true:=fun {listed i j o} hol hp hcl ha=>by
  cases ha with
  | one ho2 hp2=>rw [hol]at ho2;cases ho2;exact hp _ hp2
  | more ho2 hq2 ha=>rw [hol]at ho2;cases ho2;exact hcl.wa ha (hp _ hq2)
 refine wpIn_region_any hm (o4 (fun listed b W=>eW l (fun i=>listed.getD i false) ∧
  (
   ((∀ k,ds.length≤k→k<l.length→listed.getD k false=false)∧Inv w0 ps T ρ (bR base (fun i=>listed.getD i false) 0 (l.zip ds) s0) b W) ∨
   (∃ r,0<r∧(∀ k,k<l.length→(listed.getD k false=true↔k<ds.length+r))∧eN rr C.P l.toArray Q (l.drop (ds.length+r)) b W) ∨
   (∃ r i0 o x y,0<r∧f=some i0∧l[i0]?=some o∧jC o=some (x,y)∧(∀ k,k<l.length→(listed.getD k false=true↔(k<ds.length+r∧k≠i0)))∧eN rr C.P l.toArray Q (l.drop (ds.length+r)) (b.put (some y) (b.eval (.tmp x))) W))) ?_ ?_ l.toArray.size _ _ _ (by simp) ?_ ?_)
 ·rintro listed b W i hs ⟨hcl,hI9⟩ hi
  obtain⟨hu,o,ho,hpre⟩:=mem_ready.1 hi
  have hol:l[i]?=some o:=by simpa using ho
  have hil:i<l.length:=(List.getElem?_eq_some_iff.1 hol).1
  have hci:listed.getD i false=false:=getD_both hu
  have hsz:i<listed.size:=by rw [hs];simpa using hil
  have hpreds:∀ p∈gp o,listed.getD p false=true:=fun p hp=>by
   obtain⟨e,he,hb,rfl⟩:=k5.1 hp
   exact hpre e he hb
  have hcl2:eW l (fun j=>(listed.setIfInBounds i true).getD j false):=fun j o' p hj hcj hp=>by
   simp only [kd hsz]at hcj ⊢
   by_cases e:p=i
   ·rw [if_pos e]
   rw [if_neg e]
   by_cases e2:j=i
   ·subst e2
    rw [hol]at hj;cases hj
    exact hpreds p hp
   rw [if_neg e2]at hcj
   exact hcl j o' p hj hcj hp
  have run1:∀ {K:Act→World→Prop},eN rr C.P l.toArray Q (l.drop i) b W→(∀ a' W',eN rr C.P l.toArray Q (l.drop (i+1)) a' W'→K a' W')→wpOpIn (FW rr) 0 C.P l.toArray Q i K b W:=fun {K} h hk=>by
   unfold wpOpIn
   rw [ho]
   rw [hdrop hol]at h
   unfold eN wpListIn at h
   dsimp only
   split
   ·rename_i hw
    rw [if_pos hw]at h
    exact Oper.wpIn_mono (fun a' W' q=>hk a' W' q) h
   rename_i hw
   rw [if_neg hw]at h
   exact⟨h.1,hk _ _ h.2⟩
  have run2:∀ {i0 x y:Nat} {o0:Oper} {K:Act→World→Prop},l[i0]?=some o0→jC o0=some (x,y)→zK l i0 i=true→eN rr C.P l.toArray Q (l.drop i) (b.put (some y) (b.eval (.tmp x))) W→(∀ a' W',eN rr C.P l.toArray Q (l.drop (i+1)) (a'.put (some y) (a'.eval (.tmp x))) W'→K a' W')→wpOpIn (FW rr) 0 C.P l.toArray Q i K b W:=fun {i0 x y o0 K} h1 h2 h3 h hk=>by
   unfold zK at h3
   rw [h1,hol]at h3
   dsimp only at h3
   rw [h2]at h3
   simp only [Bool.and_eq_true,Bool.not_eq_true',List.fD]at h3
   obtain⟨⟨⟨g1,g2⟩,g3⟩,g4⟩:=h3
   have g2':o.dst≠some y:=fun e=>g2 (by simp [e])
   have g3':∀ d,o.dst=some d→Operand.tmp x≠.tmp d:=fun d e hh=>by cases hh;exact g3 (by simp [e])
   unfold wpOpIn
   rw [ho]
   rw [hdrop hol]at h
   unfold eN wpListIn at h
   dsimp only
   rw [wanted_put (ops:=l.toArray) o b (some y) _ (fun d e=>by cases e;exact g1)]at h
   have hev:∀ u,(b.put o.dst u).eval (.tmp x)=b.eval (.tmp x):=fun u=>Act.eval_put g3'
   split
   ·rename_i hw
    rw [if_pos hw]at h
    have h8:=HZ g4 g1 g2' hQ h
    refine ED g4 h8 fun u ds' W' q=>hk _ _ ?_
    have:(({ b with defers:=ds' }:Act).put o.dst u).eval (.tmp x)=b.eval (.tmp x):=(Act.eval_put (a:={ b with defers:=ds' }) g3').trans rfl
    rw [this]
    exact q
   rename_i hw
   rw [if_neg hw]at h
   refine⟨fun _ _=>trivial,hk _ _ ?_⟩
   rw [hev,← Act.put_comm b _ undef fun d e=>by cases e;exact g2']
   exact h.2
  have nextL:∀ {k:Nat},k<l.length→((listed.setIfInBounds i true).getD k false=true↔(k=i∨listed.getD k false=true)):=fun {k} _=>by
   rw [kd hsz]
   split<;>rename_i e<;>simp [e]
  rcases hI9 with ⟨hno,hinv⟩|⟨r,hr0,hls,hw9⟩|⟨r,i0,o0,x,y,hr0,hf0,ho0,hm0,hls,hw9⟩
  ·rcases Nat.lt_or_ge i ds.length with hid|hid
   ·-- one of the first ones
    obtain⟨d,hd⟩:=hzip i o hid hol
    obtain⟨hagree,hsame⟩:=hagr hd hci hpreds hcl
    have hfin:=hst i o d hd _ b W (fun a' w'=>eW l (fun j=>(listed.setIfInBounds i true).getD j false)∧(∀ k,ds.length≤k→k<l.length→(listed.setIfInBounds i true).getD k false=false)∧Inv w0 ps T ρ (bR base (fun j=>(listed.setIfInBounds i true).getD j false) 0 (l.zip ds) s0) a' w') hsame hagree hinv fun a' W' h=>by
     refine⟨hcl2,fun k h1 h2=>?_,by rw [← hadd hd hci hsz hcl];exact h⟩
     rw [kd hsz,if_neg (by omega)]
     exact hno k h1 h2
    unfold wpOpIn
    rw [ho]
    dsimp only
    split
    ·rename_i hw;rw [if_pos hw]at hfin;exact Oper.wpIn_mono (fun _ _ h=>⟨h.1,.inl h.2⟩) hfin
    rename_i hw;rw [if_neg hw]at hfin;exact⟨fun _ _=>trivial,hfin.1,.inl hfin.2⟩
   -- the first of the last ones
   have him:i=ds.length:=by
    rcases Nat.lt_or_ge ds.length i with h|h
    ·exfalso
     rcases hwait hid hil h with ha|⟨ha,_⟩
     ·have:=hup hol hpreds hcl ha
      rw [hno _ (Nat.le_refl _) (by omega)]at this
      cases this
     exact absurd (hfm ha) (by omega)
    omega
   subst him
   have hothers:∀ j,j<ds.length→f≠some j→listed.getD j false=true:=fun j hj hne=>by
    rcases hwait hid hil hj with ha|⟨ha,_⟩
    ·exact hup hol hpreds hcl ha
    exact absurd ha hne
   have hset:∀ k,k<l.length→((listed.setIfInBounds ds.length true).getD k false=true↔(k=ds.length∨listed.getD k false=true)):=fun k hk=>nextL hk
   by_cases hall9:∀ j,j<ds.length→listed.getD j false=true
   ·rw [happ hall9]at hinv
    refine run1 (hK _ _ hinv) fun a' W' q=>⟨hcl2,.inr (.inl ⟨1,by omega,fun k hk=>?_,q⟩)⟩
    rw [hset k hk]
    constructor
    ·rintro(h|h)
     ·omega
     rcases Nat.lt_or_ge k ds.length with h2|h2
     ·omega
     rw [hno k h2 hk]at h;cases h
    intro h
    rcases Nat.lt_or_ge k ds.length with h2|h2
    ·exact .inr (hall9 k h2)
    exact .inl (by omega)
   obtain⟨i0,hi0⟩:∃ i0,i0<ds.length∧listed.getD i0 false=false:=by
    apply Classical.byContradiction
    intro hh
    refine hall9 fun j hj=>?_
    cases hb:listed.getD j false with
    | true=>rfl
    | false=>exact absurd ⟨j,hj,hb⟩ hh
   have hf0:f=some i0:=by
    apply Classical.byContradiction
    intro hh
    have:=hothers i0 hi0.1 hh
    rw [hi0.2]at this;cases this
   have hil0:i0<l.length:=by omega
   have ho0:l[i0]?=some l[i0]:=List.getElem?_eq_getElem hil0
   obtain⟨d0,hd0⟩:=hzip i0 _ hi0.1 ho0
   have hwn:zK l i0 ds.length=true:=by
    rcases hwait hid hil hi0.1 with ha|⟨_,ha⟩
    ·have:=hup hol hpreds hcl ha
     rw [hi0.2]at this;cases this
    exact ha
   obtain⟨x,y,hm0⟩:∃ x y,jC l[i0]=some (x,y):=by
    have h3:=hwn
    unfold zK at h3
    rw [ho0,hol]at h3
    dsimp only at h3
    cases hq:jC l[i0]with
    | none=>rw [hq]at h3;cases h3
    | some e=>exact⟨e.1,e.2,rfl⟩
   have hpr0:∀ p∈gp l[i0],listed.getD p false=true:=fun p hp=>by
    have:=jn hback ho0 hp
    refine hothers p (by omega) fun e=>?_
    rw [hf0]at e
    cases e
    omega
   obtain⟨hagree,hsame⟩:=hagr hd0 hi0.2 hpr0 hcl
   have hsz0:i0<listed.size:=by rw [hs];simpa using hil0
   have hfin:=hst i0 _ d0 hd0 _ b W (fun a' W'=>eN rr C.P l.toArray Q (l.drop ds.length) a' W') hsame hagree hinv fun a' W' h=>by
    rw [hadd hd0 hi0.2 hsz0 hcl,happ fun j hj=>?_]at h
    ·exact hK _ _ h
    rw [kd hsz0]
    split
    ·rfl
    rename_i e
    exact hothers j hj fun e2=>e (by rw [hf0]at e2;cases e2;rfl)
   rw [if_pos (lG hm0 _),tW hm0]at hfin
   refine run2 ho0 hm0 hwn hfin fun a' W' q=>⟨hcl2,.inr (.inr ⟨1,i0,_,x,y,by omega,hf0,ho0,hm0,fun k hk=>?_,q⟩)⟩
   rw [hset k hk]
   constructor
   ·rintro(h|h)
    ·omega
    rcases Nat.lt_or_ge k ds.length with h2|h2
    ·exact⟨by omega,fun e=>by rw [e,hi0.2]at h;cases h⟩
    rw [hno k h2 hk]at h;cases h
   rintro⟨h,hne⟩
   rcases Nat.lt_or_ge k ds.length with h2|h2
   ·exact .inr (hothers k h2 fun e=>hne (by rw [hf0]at e;cases e;rfl))
   exact .inl (by omega)
  ·-- among the last ones
   have hir:i=ds.length+r:=by
    have h1:¬ i<ds.length+r:=fun h=>by rw [(hls i hil).2 h]at hci;cases hci
    rcases Nat.lt_or_ge (ds.length+r) i with h|h
    ·exfalso
     rcases hwait (by omega) hil h with ha|⟨ha,_⟩
     ·have:=(hls _ (by omega)).1 (hup hol hpreds hcl ha)
      omega
     exact absurd (hfm ha) (by omega)
    omega
   subst hir
   refine run1 hw9 fun a' W' q=>⟨hcl2,.inr (.inl ⟨r+1,by omega,fun k hk=>?_,q⟩)⟩
   rw [nextL hk,hls k hk]
   omega
  by_cases hi0:i=i0
  ·subst hi0
   rw [ho0]at hol
   cases hol
   unfold wpOpIn
   rw [ho]
   dsimp only
   rw [if_pos (lG hm0 _),tW hm0]
   refine⟨hcl2,.inr (.inl ⟨r,hr0,fun k hk=>?_,hw9⟩)⟩
   rw [nextL hk,hls k hk]
   have:=hfm hf0
   omega
  have hir:i=ds.length+r:=by
   have h1:¬ i<ds.length+r:=fun h=>by rw [(hls i hil).2 ⟨h,hi0⟩]at hci;cases hci
   rcases Nat.lt_or_ge (ds.length+r) i with h|h
   ·exfalso
    rcases hwait (by omega) hil h with ha|⟨ha,_⟩
    ·have:=(hls _ (by omega)).1 (hup hol hpreds hcl ha)
     omega
    exact absurd (hfm ha) (by omega)
   omega
  subst hir
  have hi0m:=hfm hf0
  have hwn:zK l i0 (ds.length+r)=true:=by
   rcases hwait (by omega) hil (by omega:i0<ds.length+r)with ha|⟨_,ha⟩
   ·have:=(hls _ (by omega)).1 (hup hol hpreds hcl ha)
    omega
   exact ha
  refine run2 ho0 hm0 hwn hw9 fun a' W' q=>⟨hcl2,.inr (.inr ⟨r+1,i0,o0,x,y,by omega,hf0,ho0,hm0,fun k hk=>?_,q⟩)⟩
  rw [nextL hk,hls k hk]
  omega
 ·rintro listed b W hs ⟨hcl,hI9⟩ hr
  have hall:∀ i,i<l.length→listed.getD i false=true:=by
   intro i
   induction i using Nat.strongRecOn with
   | ind i ih =>
    intro hi
    cases hb:listed.getD i false with
    | true=>rfl
    | false =>
     exfalso
     have hm:i∈Region.ready .any l.toArray listed:=by
      refine mem_ready.2 ⟨getD_in (by rw [hs];simpa using hi) hb,l[i],by simp [hi],fun e he hbd=>?_⟩
      have:=jn hback (List.getElem?_eq_getElem hi) (k5.2 ⟨e,he,hbd,rfl⟩)
      rw [Nat.zero_add]at this
      exact ih e.on this (by omega)
     rw [hr]at hm
     cases hm
  rcases hI9 with ⟨hno,_⟩|⟨r,_,hls,hq⟩|⟨r,i0,o0,x,y,_,hf0,ho0,_,hls,_⟩
  ·have:=hall ds.length hlen
   rw [hno _ (Nat.le_refl _) hlen]at this;cases this
  ·rw [List.drop_of_length_le]at hq
   ·exact hq
   rcases Nat.lt_or_ge (ds.length+r) l.length with h|h
   ·have:=(hls _ h).1 (hall _ h)
    omega
   exact h
  have h1:=(List.getElem?_eq_some_iff.1 ho0).1
  exact absurd rfl ((hls _ h1).1 (hall _ h1)).2
 ·rw [Array.toList_replicate];exact Nat.le_trans (List.length_filter_le _ _) (by simp)
 have hz:(fun i=>(Array.replicate l.toArray.size false).getD i false)=fun _=>false:=funext fun i=>getD_replicate_false _ _
 refine⟨(by rw [hz];exact fun j o p _ hc _=>nomatch hc),.inl ⟨fun k _ _=>getD_replicate_false _ _,?_⟩⟩
 have:bR base (fun i=>(Array.replicate l.toArray.size false).getD i false) 0 (l.zip ds) s0=s0:=by
  rw [hz,iJ]
 rw [this]
 exact hI.step ((Below.refl _ _).drew)
end
end SX
namespace SX
def S.wk(s:S)(sh:List Sh)(kn:List (Nat×List Nat×Value)):S:={ s with sh:=sh,kn:=kn }
theorem lT(s:S)(sh:List Sh)(kn:List (Nat×List Nat×Value))(nm:Nat)(d:Option Tmp)(v:V)(new:Option ae)(wr:Option (Nat×ae)):(s.wk sh kn).cX nm d v new wr=(s.cX nm d v new wr).wk sh kn:=by
 cases wr<;>cases new<;>cases d<;>rfl
theorem nE(base:Nat)(c:Nat→Bool)(sh:List Sh)(kn:List (Nat×List Nat×Value)):∀ (l:List (Oper×cr))(i:Nat)(s:S),bR base c i l (s.wk sh kn)=(bR base c i l s).wk sh kn
 | [],_,_=>rfl
 | (o,d)::l,i,s=>by
  unfold bR
  split
  ·rw [lT,nE base c sh kn l]
  rw [nE base c sh kn l]
theorem pK{base:Nat}:∀ (l:List (Oper×cr))(k i:Nat)(s:S),bR base (fun j=>decide (j<k+i)) k l s=bR base (fun _=>true) k (l.take i) s
 | [],k,i,s=>by simp [bR]
 | (o,d)::l,k,0,s=>by
  have h:∀ (l:List (Oper×cr)) (m:Nat) (s:S),k≤m→bR base (fun j=>decide (j<k+0)) m l s=s:=by
   intro l
   induction l with
   | nil=>intro m s _;rfl
   | cons x l ih =>
    intro m s hm
    obtain⟨o,d⟩:=x
    unfold bR
    rw [if_neg (by simp;omega)]
    exact ih (m+1) s (by omega)
  rw [h _ _ _ (Nat.le_refl _)]
  rfl
 | (o,d)::l,k,i+1,s=>by
  simp only [List.take_succ_cons,bR]
  rw [if_pos (by simp),if_pos trivial]
  have:=pK (base:=base) l (k+1) i (s.cX (base+k) o.dst d.v d.new d.wr)
  rw [← this]
  congr 1
  funext j
  rw [show k+1+i=k+(i+1) by omega]
section
variable {C:Cx}{w0:eT}{ps:List (World→Prop)}{T:List TF}{ρ ρ':List Value}{s:S}{a:Act}{W:World}{α:Nat→AV}{Q:Exit→Act→World→Prop}{rr:Option Nat}
theorem ay.wk(h:ay w0 ps T ρ s a W α){kn:List (Nat×List Nat×Value)}(hk:∀ e∈kn,e.1<ρ.length∧e.2.1.foldl comp (ρ.getD e.1 undef)=e.2.2):ay w0 ps T ρ (s.wk s.sh kn) a W α :=
 ⟨h.defers,⟨h.good.len,h.good.fit,hk⟩,⟨h.wf.fr,h.wf.stk,h.wf.hp,h.wf.ln⟩,h.fm,h.kW,h.st,h.rows,h.lens⟩
theorem mQ(hp:ρ<+:ρ'){kn:List (Nat×List Nat×Value)}(hk:∀ e∈kn,e.1<ρ.length∧e.2.1.foldl comp (ρ.getD e.1 undef)=e.2.2):∀ e∈kn,e.1<ρ'.length∧e.2.1.foldl comp (ρ'.getD e.1 undef)=e.2.2:=fun e he=>by
 obtain⟨h1,h2⟩:=hk e he
 obtain⟨r,rfl⟩:=hp
 refine⟨by simp;omega,?_⟩
 rwa [List.getD_eq_getElem?_getD,List.getElem?_append_left h1,← List.getD_eq_getElem?_getD]
def BZ(C:Cx)(rr:Option Nat)(w0:eT)(ps:List (World→Prop))(T:List TF)(ρ:List Value)(Q:Exit→Act→World→Prop)(all:Array Oper)(nm:Nat)(o:Oper)(d:cr)(s pre:S):Prop :=
 ∀ ρf shf knf,ρ<+:ρf→s.sh<+:shf→tZ C rr w0 ps T ρf Q all nm o d (pre.wk shf knf)
theorem mE{s s':S}{xs:List Operand}{vs:List V}(hk:s'.kn=s.kn)(hf:∀ x∈tmpsOf xs,s'.fr[x]?=s.fr[x]?)(h:xs.mapM s.ev=some vs):xs.mapM s'.ev=some vs:=by
 induction xs generalizing vs with
 | nil=>exact h
 | cons x xs ih =>
  simp only [List.mapM_cons,Option.bind_eq_bind,Option.bind_eq_some_iff]at h ⊢
  obtain⟨v,hv,vs',hvs,h⟩:=h
  refine⟨v,?_,vs',ih (fun y hy=>hf y ?_) hvs,h⟩
  ·cases x with
   | tmp t =>
    have:=hf t (by simp [tmpsOf])
    simp only [S.ev,this,hk]at hv ⊢
    exact hv
   | const v=>exact hv
   | global g=>exact hv
   | func f=>exact hv
  cases x<;>simp [tmpsOf,hy]
theorem pP{hp hp':List (Option ae)}{vs:List V}(h:∀ n∈dJ vs,hp'[n]?=hp[n]?):cA hp' vs=cA hp vs:=by
 unfold cA
 exact List.map_congr_left fun n hn=>by rw [h n hn]
theorem ql{hp hp':List (Option ae)}:∀ {vs:List V},(∀ n∈dJ vs,hp'[n]?=hp[n]?)→oz hp' vs=oz hp vs
 | [],_=>rfl
 | v::l,h=>by
  have h1:∀ n∈dJ l,hp'[n]?=hp[n]?:=fun n hn=>h n (by simp only [dJ,List.flatMap_cons,List.mem_append];exact .inr hn)
  unfold oz
  rw [ql h1]
  congr 1
  cases v<;>try rfl
  rename_i n _ _ _
  simp only
  rw [h n (by simp [dJ,uP])]
theorem tu{s s':S}{op:Op}{vs:List V}(h:∀ n∈gb s.hp op vs,s'.hp[n]?=s.hp[n]?)(h':∀ n∈eG op vs,s'.ln[n]?=s.ln[n]?):s'.iA op vs=s.iA op vs:=by
 unfold S.iA
 unfold gb at h
 unfold eG at h'
 split
 ·rename_i hs
  rw [if_pos hs]at h'
  exact pP h'
 rename_i hs
 rw [if_neg hs]at h
 have hd:fz s'.hp op vs=fz s.hp op vs:=by
  unfold fz at h ⊢
  split
  ·rename_i hc
   rw [if_pos hc]at h
   rw [ql fun n hn=>h n (by simp only [dJ,List.flatMap_append,List.mem_append]at hn ⊢;exact .inl hn)]
  rfl
 rw [hd]
 exact pP h
mutual
theorem V.ia{hp hp':List (Option ae)}{m:Nat}:∀ v:V,(∀ n∈v.names,lv hp' n=lv hp n)→v.wf hp' m=v.wf hp m
 | .k _,_=>rfl
 | .x _ _,_=>rfl
 | .p n _,h=>h n (by simp [V.names])
 | .sl n _ _ _,h=>h n (by simp [V.names])
 | .row n,h=>h n (by simp [V.names])
 | .y n,h=>h n (by simp [V.names])
 | .mapV n,h=>h n (by simp [V.names])
 | .cat cs,h=>eS cs h
 | .a cs,h=>eS cs h
 | .t cs,h=>eS cs h
 | .f _ a b,h=>by simp only [V.wf,eS a fun n hn=>h n (by simp [V.names,hn]),eS b fun n hn=>h n (by simp [V.names,hn])]
 | .ep s i _ _,h=>by simp only [V.wf,V.ia s fun n hn=>h n (by simp [V.names,hn]),V.ia i fun n hn=>h n (by simp [V.names,hn])]
 | .pt s i _ _,h=>by simp only [V.wf,V.ia s fun n hn=>h n (by simp [V.names,hn]),V.ia i fun n hn=>h n (by simp [V.names,hn])]
 | .ifc _ v,h=>V.ia v h
theorem eS{hp hp':List (Option ae)}{m:Nat}:∀ l:List V,(∀ n∈aC l,lv hp' n=lv hp n)→dc hp' m l=dc hp m l
 | [],_=>rfl
 | v::l,h=>by simp only [dc,V.ia v fun n hn=>h n (by simp [aC,hn]),eS l fun n hn=>h n (by simp [aC,hn])]
end
theorem kh{hp hp':List (Option ae)}{n:Nat}(h:hp'[n]?=hp[n]?):lv hp' n=lv hp n:=by unfold lv;rw [h]
theorem uJ{hp hp':List (Option ae)}{n nm:Nat}{b:ae}(hl:hp'.length=hp.length)(h:n≠nm→hp'[n]?=hp[n]?):lv (hp'.set nm (some b)) n=lv (hp.set nm (some b)) n:=by
 apply kh
 by_cases e:nm=n
 ·subst e;simp [List.getElem?_set,hl]
 rw [List.getElem?_set_ne e,List.getElem?_set_ne e,h fun h=>e h.symm]
theorem uM{n nm:Nat}{v:V}{new:Option ae}{wr:Option (Nat×ae)}(hn:n∈v.names∨(∃ b,new=some b∧n∈aC b.c)∨(∃ m b,wr=some (m,b)∧(n=m∨n∈aC b.c)))(h:n≠nm):n∈ct nm v new wr:=by
 unfold ct
 refine List.mem_filter.2 ⟨?_,by simpa using h⟩
 rcases hn with hn|⟨b,rfl,hn⟩|⟨m,b,rfl,hn⟩
 ·simp [hn]
 ·simp [hn]
 rcases hn with rfl|hn
 ·simp
 simp [hn]
theorem j9{s s':S}{nm:Nat}{v:V}{new:Option ae}{wr:Option (Nat×ae)}(hl:s'.ln.length=s.ln.length)(h0:s'.ln[nm]?=s.ln[nm]?)(h:∀ n∈ct nm v new wr,s'.ln[n]?=s.ln[n]?)(hs:s.sh.length≤s'.sh.length)(hw:aP s nm v new wr=true):aP s' nm v new wr=true:=by
 have hin:∀ n,n∈v.names∨(∃ b,new=some b∧n∈aC b.c)∨(∃ m b,wr=some (m,b)∧(n=m∨n∈aC b.c))→s'.ln[n]?=s.ln[n]?:=fun n hn=>by
  by_cases e:n=nm
  ·rw [e];exact h0
  exact h n (uM hn e)
 clear h
 unfold aP at *
 simp only [Bool.and_eq_true]at hw ⊢
 obtain⟨⟨h1,h2⟩,h3⟩:=hw
 refine⟨⟨V.ej (fun _ h=>h) hs v ?_,?_⟩,?_⟩
 ·rw [V.ia v fun n hn=>?_]
  ·exact h1
  unfold nJ
  cases new with
  | none=>exact kh (hin n (.inl hn))
  | some b=>exact uJ hl fun _=>hin n (.inl hn)
 ·cases new with
  | none=>rfl
  | some b =>
   refine bJ (fun _ h=>h) hs b.c ?_
   rw [eS b.c fun n hn=>kh (hin n (.inr (.inl ⟨b,rfl,hn⟩)))]
   exact h2
 cases wr with
 | none=>rfl
 | some e =>
  obtain⟨m,b⟩:=e
  simp only [Bool.and_eq_true]at h3 ⊢
  refine⟨bJ (fun _ h=>h) hs b.c ?_,?_⟩
  ·rw [eS b.c fun n hn=>kh (hin n (.inr (.inr ⟨m,b,rfl,.inr hn⟩)))]
   exact h3.1
  rw [kh (hin m (.inr (.inr ⟨m,b,rfl,.inl rfl⟩)))];exact h3.2
theorem lc{sh:List Sh}{nm:Nat}{op:Op}{vs:List V}{bs:List (Nat×Option ae)}{p:Pl}(h:dq C sh nm op vs bs=p)(hp:p≠.no):∀ c,op≠.defer c:=by
 rintro c rfl
 exact hp (h.symm.trans (by simp [dq,kr,fI]))
theorem IP{all:Array Oper}{nm:Nat}{o:Oper}{v:V}{new:Option ae}{wr:Option (Nat×ae)}{vs:List V}(hg:Good ρ s)(hwant:∀ (s':S) ρf a' W',s'.kn=s.kn→eV (slotsOf all o) [] [] s' s→Inv w0 ps T ρf s' a' W'→Region.wanted o (yielded all a'.tmps)=true)(hvs:o.op.operands.toList.mapM s.ev=some vs)(h:dq C s.sh nm o.op vs (s.iA o.op vs)=.ef v new wr)(hw:aP s nm v new wr=true)(hnm:aW s nm) :
 BZ C rr w0 ps T ρ Q all nm o ⟨v,new,wr,slotsOf all o,gb s.hp o.op vs,eG o.op vs++ct nm v new wr⟩ s s:=by
 intro ρf shf knf hρ hsh s' a' W' K hsame hag hI hK
 obtain⟨α,hA⟩:=hI
 have hkn:=mQ hρ hg.kn
 have hA':=hA.wk hkn
 have hfr:∀ x∈slotsOf all o,s'.fr[x]?=s.fr[x]?:=hag.fr
 have hhp:∀ n∈nm::gb s.hp o.op vs,s'.hp[n]?=s.hp[n]?:=hag.hp
 have hln:∀ n∈nm::(eG o.op vs++ct nm v new wr),s'.ln[n]?=s.ln[n]?:=hag.ln
 rw [if_pos (hwant (s'.wk s'.sh s.kn) ρf a' W' rfl ⟨hfr,(fun _ h=>nomatch h),(fun _ h=>nomatch h)⟩ ⟨α,hA'⟩)]
 refine fk (lc h nofun) ?_
 refine Fk (s:=s'.wk s'.sh s.kn) (nm:=nm) (sh:=s.sh) (v:=v) (new:=new) (wr:=wr) (vs:=vs) ?_ (mE (s:=s) rfl (fun x hx=>hfr x (by simp [slotsOf,hx])) hvs) ?_ hA' (.inr ?_) ?_ fun a2 W2 h2=>hK a2 W2 ?_
 ·show s.sh<+:s'.sh
  rw [hsame.sh];exact hsh
 ·show dq C s.sh nm o.op vs (s'.iA o.op vs)=_
  rw [tu (s:=s) (fun n hn=>hhp n (by simp [hn])) (fun n hn=>hln n (by simp [hn]))]
  exact h
 ·exact⟨(hhp nm (List.mem_cons_self ..)).trans hnm.1,(hln nm (List.mem_cons_self ..)).trans hnm.2⟩
 ·refine j9 (s:=s) (s':=s'.wk s'.sh s.kn) hsame.lnl (hln nm (List.mem_cons_self ..)) (fun n hn=>hln n (by simp [hn])) ?_ hw
  show s.sh.length≤s'.sh.length
  rw [hsame.sh]
  exact List.IsPrefix.length_le hsh
 obtain⟨α2,h2⟩:=h2
 rw [lT]at h2
 have e:s'=s'.wk s'.sh s'.kn:=rfl
 rw [e,lT]
 have hkk:∀ e∈s'.kn,e.1<ρf.length∧e.2.1.foldl comp (ρf.getD e.1 undef)=e.2.2:=hA.good.kn
 exact⟨α2,h2.wk hkk |> fun q=>q⟩
theorem Nr{w0:eT}{nm:Nat}{o:Oper}{d:cr}{s':S}{kn:List (Nat×List Nat×Value)}{ρf:List Value}{a2:Act}{W2:World}(hk:∀ e∈s'.kn,e.1<ρf.length∧e.2.1.foldl comp (ρf.getD e.1 undef)=e.2.2)(h2:Inv w0 ps T ρf ((s'.wk s'.sh kn).cX nm o.dst d.v d.new d.wr) a2 W2):Inv w0 ps T ρf (s'.cX nm o.dst d.v d.new d.wr) a2 W2:=by
 obtain⟨α2,h2⟩:=h2
 rw [lT]at h2
 have h3:=h2.wk hk
 have e:s'=s'.wk s'.sh s'.kn:=rfl
 rw [e,lT]
 exact⟨α2,h3⟩
theorem C0{all:Array Oper}{nm:Nat}{o:Oper}(hwant:∀ (s':S) ρf a' W',s'.kn=s.kn→eV (slotsOf all o) [] [] s' s→Inv w0 ps T ρf s' a' W'→Region.wanted o (yielded all a'.tmps)=false)(hg:Good ρ s) :
 BZ C rr w0 ps T ρ Q all nm o ⟨.k undef,none,none,slotsOf all o,[],[]⟩ s s:=by
 intro ρf shf knf hρ hsh s' a' W' K hsame hag hI hK
 obtain⟨α,hA⟩:=hI
 have hkn:=mQ hρ hg.kn
 rw [if_neg (by rw [hwant (s'.wk s'.sh s.kn) ρf a' W' rfl ⟨hag.fr,(fun _ h=>nomatch h),(fun _ h=>nomatch h)⟩ ⟨α,hA.wk hkn⟩];decide)]
 exact hK _ _ ⟨α,hA.fq o.dst rfl rfl⟩
theorem cG(hp:ρ<+:ρ'){hp0:List (Option ae)}:∀ {rw:List Rw}{args:List V}{as':List Arg},dc hp0 ρ.length args=true→rw.all (Rw.wf hp0 ρ.length)=true→bK C ρ α rw args as'→bK C ρ' α rw args as'
 | [],[],[],_,_,_=>trivial
 | .no::r,v::vs,x::xs,h1,h2,h3=>by
  simp only [dc,Bool.and_eq_true,List.all_cons]at h1 h2
  obtain⟨h4,h5,h6⟩:=h3
  exact⟨by rw [iu hp h1.1];exact h4,by rw [iu hp h1.1];exact h5,cG hp h1.2 h2.2 h6⟩
 | .own sz cs::r,v::vs,x::xs,h1,h2,h3=>by
  simp only [dc,Bool.and_eq_true,List.all_cons]at h1 h2
  obtain⟨h4,h6⟩:=h3
  exact⟨by rw [iu hp h1.1,dM (hp:=hp0) (fun _ _=>rfl) hp cs h2.1];exact h4,cG hp h1.2 h2.2 h6⟩
 | .ext sz::r,v::vs,x::xs,h1,h2,h3=>by
  simp only [dc,Bool.and_eq_true,List.all_cons]at h1 h2
  obtain⟨h4,h5,h6,h7⟩:=h3
  exact⟨by rw [iu hp h1.1];exact h4,h5,by rw [iu hp h1.1];exact h6,cG hp h1.2 h2.2 h7⟩
 | .row sz cs::r,v::vs,x::xs,h1,h2,h3=>by
  simp only [dc,Bool.and_eq_true,List.all_cons]at h1 h2
  obtain⟨h4,h6⟩:=h3
  exact⟨by rw [iu hp h1.1,dM (hp:=hp0) (fun _ _=>rfl) hp cs h2.1];exact h4,cG hp h1.2 h2.2 h6⟩
 | .row _ _::_,[],_,_,_,h=>h.elim
 | .row _ _::_,_::_,[],_,_,h=>h.elim
 | [],[],_::_,_,_,h=>h.elim
 | [],_::_,_,_,_,h=>h.elim
 | .no::_,[],_,_,_,h=>h.elim
 | .own _ _::_,[],_,_,_,h=>h.elim
 | .ext _::_,[],_,_,_,h=>h.elim
 | .no::_,_::_,[],_,_,h=>h.elim
 | .own _ _::_,_::_,[],_,_,h=>h.elim
 | .ext _::_,_::_,[],_,_,h=>h.elim
theorem qI(hp:ρ<+:ρ'){hp0:List (Option ae)}{q:cO}{args:List V}{v:Value}(ha:dc hp0 ρ.length args=true)(hq:q.wf hp0 ρ.length=true)(h:q.rel C ρ α args v):q.rel C ρ' α args v:=by
 have e:=dM (hp:=hp0) (α:=α) (α':=α) (fun _ _=>rfl) hp args ha
 unfold cO.rel at h
 split at h
 all_goals first
  | exact h.elim
  | (
   simp only [ab,List.cons.injEq,and_true]at e
   simp only [cO.rel,e]
   exact h)
  | skip
 ·-- dR
  rename_i c y
  simp only [ab,List.cons.injEq,and_true]at e
  simp only [dc,Bool.and_eq_true]at ha
  obtain⟨x,h1,h2⟩:=h
  refine⟨x,cG (rw:=[_]) (args:=[y]) hp (hp0:=hp0) (by simp [dc,ha.2.1]) (by simpa [cO.wf]using hq) h1,?_⟩
  rw [e.1]
  exact h2
 ·show nY _ _ _ _ _ (ab ρ' α _)=some v
  rw [e];exact h
 ·obtain⟨as',h1,h2⟩:=h
  exact⟨as',cG hp ha hq h1,h2⟩
 ·-- callg
  rename_i f rw grw
  obtain⟨as',gs,h1,h2,h3⟩:=h
  simp only [cO.wf,Bool.and_eq_true]at hq
  exact⟨as',gs,cG hp (jO fun u hu=>dA ha u (List.mem_of_mem_take hu)) hq.1 h1,cG hp (jO fun u hu=>dA ha u (List.mem_of_mem_drop hu)) hq.2 h2,h3⟩
 ·-- callp
  rename_i f rw t
  obtain⟨as',h1,h2⟩:=h
  have ed:ab ρ' α (args.drop rw.length)=ab ρ α (args.drop rw.length):=by rw [aw,aw,List.map_drop,List.map_drop,← aw,← aw,e]
  exact⟨as',cG hp (jO fun u hu=>dA ha u (List.mem_of_mem_take hu)) (by simpa [cO.wf]using hq) h1,by rw [ed];exact h2⟩
 ·-- callr
  rename_i f rw sz t c vs
  simp only [ab,List.cons.injEq]at e
  simp only [dc,Bool.and_eq_true]at ha
  obtain⟨as',h1,h2⟩:=h
  exact⟨as',cG hp ha.2 (by simpa [cO.wf]using hq) h1,by rw [e.1];exact h2⟩
 ·-- calln
  obtain⟨as',h1,h2⟩:=h
  exact⟨as',cG hp ha (by simpa [cO.wf]using hq) h1,h2⟩
 ·-- callw
  rename_i f rw caps
  obtain⟨as',h1,h2⟩:=h
  simp only [cO.wf,Bool.and_eq_true]at hq
  refine⟨as',cG hp (jO fun u hu=>dA ha u (List.mem_of_mem_take hu)) hq.1 h1,?_⟩
  have:caps.map (ab ρ' α)=caps.map (ab ρ α):=List.map_congr_left fun c hc=>dM (hp:=hp0) (fun _ _=>rfl) hp c (List.all_eq_true.1 hq.2 c hc)
  rw [this]
  exact h2
 ·-- appx
  rename_i x y
  simp only [ab,List.cons.injEq,and_true]at e
  simp only [dc,Bool.and_eq_true]at ha
  obtain⟨cells,xa,A,n,h1,h2,h3,h4,h5,h6⟩:=h
  refine⟨cells,xa,A,n,by rw [e.1];exact h1,by rw [e.1];exact h2,by rw [e.1];exact h3,h4,cG (rw:=[_]) (args:=[y]) hp (hp0:=hp0) (by simp [dc,ha.2.1]) (by simpa [cO.wf]using hq) h5,h6⟩
 ·-- apo
  rename_i x y
  simp only [ab,List.cons.injEq,and_true]at e
  simp only [dc,Bool.and_eq_true]at ha
  obtain⟨xa,h1,h2,h3,h4,h5⟩:=h
  rw [← e.1]at h5
  exact⟨xa,cG (rw:=[_]) (args:=[y]) hp (hp0:=hp0) (by simp [dc,ha.2.1]) (by simpa [cO.wf]using hq) h1,h2,h3,h4,h5⟩
 rename_i neq n l
 have et:∀ m,ab ρ' α (args.take m)=ab ρ α (args.take m):=fun m=>by rw [aw,aw,List.map_take,List.map_take,← aw,← aw,e]
 have ed:∀ m,ab ρ' α (args.drop m)=ab ρ α (args.drop m):=fun m=>by rw [aw,aw,List.map_drop,List.map_drop,← aw,← aw,e]
 obtain⟨b,h1,h2,h3,h4⟩:=h
 exact⟨b,by rw [et,ed];exact h1,by rw [et];exact h2,by rw [ed];exact h3,h4⟩
theorem IM{all:Array Oper}{nm:Nat}{o:Oper}{q:cO}{args:List V}{sh:Sh}{mk:Option V}{new:Option ae}{wr:Option (Nat×ae)}{vs:List V}{v:Value}(hC:C.Ok)(hps:ll C w0 ps)(hg:Good ρ s)(hwant:∀ (s':S) ρf a' W',s'.kn=s.kn→eV (slotsOf all o) [] [] s' s→Inv w0 ps T ρf s' a' W'→Region.wanted o (yielded all a'.tmps)=true)(hvs:o.op.operands.toList.mapM s.ev=some vs)(h:dq C s.sh nm o.op vs (s.iA o.op vs)=.df q args sh mk new wr)
 (hrel:∀ α,q.rel C ρ α args v) (hargs:dc s.ln s.sh.length args=true) (hq:q.wf s.ln s.sh.length=true) (hfit:sh.fit v=true) (hw:aP (s.ext sh) nm (bh s.sh.length sh mk) new wr=true) (hnm:aW s nm) :
 BZ C rr w0 ps T (ρ++[v]) Q all nm o ⟨bh s.sh.length sh mk,new,wr,slotsOf all o,gb s.hp o.op vs,eG o.op vs++ct nm (bh s.sh.length sh mk) new wr⟩ (s.ext sh) s:=by
 intro ρf shf knf hρ hsh s' a' W' K hsame hag hI hK
 obtain⟨α,hA⟩:=hI
 have hρ0:ρ<+:ρf:=(List.prefix_append ρ [v]).trans hρ
 have hkn:=mQ hρ0 hg.kn
 have hA':=hA.wk hkn
 have hfr:∀ x∈slotsOf all o,s'.fr[x]?=s.fr[x]?:=hag.fr
 have hhp:∀ n∈nm::gb s.hp o.op vs,s'.hp[n]?=s.hp[n]?:=hag.hp
 have hln:∀ n∈nm::(eG o.op vs++ct nm (bh s.sh.length sh mk) new wr),s'.ln[n]?=s.ln[n]?:=hag.ln
 rw [if_pos (hwant (s'.wk s'.sh s.kn) ρf a' W' rfl ⟨hfr,(fun _ h=>nomatch h),(fun _ h=>nomatch h)⟩ ⟨α,hA'⟩)]
 have hsh2:(s.ext sh).sh<+:s'.sh:=by rw [hsame.sh];exact hsh
 have hv:ρf[s.sh.length]?=some v:=by
  obtain⟨r,rfl⟩:=hρ
  rw [hg.len]
  simp
 refine fk (lc h nofun) ?_
 refine Fh (s:=s'.wk s'.sh s.kn) (sh0:=s.sh) (nm:=nm) (vs:=vs) (v:=v) (q:=q) (args:=args) (sh:=sh) (mk:=mk) (new:=new) (wr:=wr) ((List.prefix_append s.sh [sh]).trans hsh2) hC hps (mE (s:=s) rfl (fun x hx=>hfr x (by simp [slotsOf,hx])) hvs) ?_ hA' hv ?_ hfit (.inr ?_) ?_ fun a2 W2 h2=>hK a2 W2 (Nr hA.good.kn h2)
 ·show dq C s.sh nm o.op vs (s'.iA o.op vs)=_
  rw [tu (s:=s) (fun n hn=>hhp n (by simp [hn])) (fun n hn=>hln n (by simp [hn]))]
  exact h
 ·rw [hg.len]at hargs hq
  exact qI hρ0 hargs hq (hrel α)
 ·exact⟨(hhp nm (List.mem_cons_self ..)).trans hnm.1,(hln nm (List.mem_cons_self ..)).trans hnm.2⟩
 exact j9 (s:=s.ext sh) (s':=s'.wk s'.sh s.kn) hsame.lnl (hln nm (List.mem_cons_self ..)) (fun n hn=>hln n (by simp [hn])) (List.IsPrefix.length_le hsh2) hw
theorem St.MW{hs:List Ch}(h:St w0 hs [] ps W):St ⟨W,hs.map (·.id),fun _=>False,fun _=>False⟩ hs [] ps W :=
 ⟨⟨rfl,rfl,rfl,Nat.le_refl _,fun _ _ _=>rfl⟩,fun e he=>⟨.inr (List.mem_map_of_mem (f:=(·.id)) he),(h.dt e he).2⟩,(fun _ h=>nomatch h),h.nodup,h.pers⟩
def jT(C:Cx)(ps:List (World→Prop))(n:Nat):Prop:=∀ (w0:eT) (T0:List TF) (R:Ending→World→Prop) (G:jl) (lv:Nat) (s:S) (items:List It) (T:List TF) (J:List (Act→World→Prop)) (L:List (Cx→List Value→Prop)) (ρ:List Value) (a:Act) (W:World),
 (G.ei=12→w0.ms=[]∧(C.la=true→w0.rf C.nb))→ll C w0 ps→VC C w0 ps T0 R L ρ (run C G n lv s items)→L.length=lv→Rel w0 ps T0 L ρ items T J→Inv w0 ps T ρ s a W→iH C.P R items T J .normal a W
theorem dD{nms:List Nat}{hp:List (Option ae)}{n:Nat}{b:ae}(h:(xe nms hp)[n]?=some (some b)):hp[n]?=some (some b)∧n∈nms:=by
 simp only [xe,List.getElem?_mapIdx,Option.map_eq_some_iff]at h
 obtain⟨o,ho,h⟩:=h
 split at h
 ·rename_i hc
  subst h
  exact⟨ho,by simpa using hc⟩
 cases h
theorem HW{s:S}{m:Nat}(h:EN s=true)(hm:s.sh.length=m):s.Wf m:=by
 subst hm
 simp only [EN,Bool.and_eq_true]at h
 obtain⟨⟨⟨⟨h1,h2⟩,h3⟩,h4⟩,h5⟩:=h
 refine⟨fun v hv=>List.all_eq_true.1 h1 _ hv,fun f hf v hv=>List.all_eq_true.1 (List.all_eq_true.1 h2 f hf) _ hv,fun b hb=>?_,fun b hb=>List.all_eq_true.1 h3 _ hb⟩
 have:=List.all_eq_true.1 h5 _ hb
 simp only [Bool.and_eq_true]at this
 exact this.1
theorem HV{s:S}(h:EN s=true){n:Nat}{b:ae}(hn:s.hp[n]?=some (some b)):lv s.ln n=true:=by
 simp only [EN,Bool.and_eq_true]at h
 have:=List.all_eq_true.1 h.1.2 n (by simpa using (List.getElem?_eq_some_iff.1 hn).1)
 rw [hn]at this
 exact this
theorem BS{n:Nat}(hrun:jT C ps n)(hps:ll C w0 ps){Gk:jl}(hgk:Gk.ei≠12){g:FuncId}{fn:Func}{body:Code}{args:List V}{v:V}{hp':List (Option ae)}{stk':List (List (Option V))}(hfn:C.P.funcs[g]?=some fn)(hbody:fn.body=some body)
 (ht:run C Gk n 0 (bZ s g fn args) [.code body,.top fn]=.ret v hp' stk') (hlen:args.length≤fn.ntmps) (hwf:EN (bZ s g fn args)=true) (hh:iG [] gR 0 (bZ s g fn args).hp hp'=true) (hk:mD (bZ s g fn args).stk stk'=true)
 (hg:Good ρ s) (hρ:ρ<+:ρ') {s':S} (hA:ay w0 ps T ρ' s' a W α) (hagree:∀ n∈aC args,s'.hp[n]?=s.hp[n]?) (hagreeL:∀ n∈aC args,s'.ln[n]?=s.ln[n]?) :
 Calls C.P g (ab ρ' α args).toArray W fun e W'=>Below W.heap.size W W'∧∃ α',e=.returned (v.den ρ α')∧(∀ m∈aC args,(α' m).b=(α m).b∧(α' m).h=(α m).h)∧St ⟨W,(aN ρ α 0 (bZ s g fn args).hp).map (·.id),fun _=>False,fun _=>False⟩ (aN ρ α' 0 hp') [] ps W':=by
 have hwfI:=HW (m:=ρ.length) hwf hg.len
 have hkc:∀ (m:Nat) (b:ae),(bZ s g fn args).hp[m]?=some (some b)→b.k=.cells:=fun m b hb=>by
  simp only [EN,Bool.and_eq_true]at hwf
  have:=List.all_eq_true.1 hwf.2 _ (List.mem_of_getElem? hb)
  simp only [Bool.and_eq_true,decide_eq_true_eq]at this
  exact this.2
 have hargsw:dc (bZ s g fn args).ln ρ.length args=true:=jO fun u hu=>hwfI.fr u (List.mem_append_left _ (List.mem_map_of_mem (f:=some) hu))
 have hargs:ab ρ' α args=ab ρ α args:=dM (hp:=(bZ s g fn args).ln) (fun _ _=>rfl) hρ args hargsw
 rw [hargs]
 have hsub:List.Sublist (aN ρ α 0 (bZ s g fn args).hp) (aN ρ' α 0 s'.hp):=mq fun m b hb=>by
  obtain⟨h1,h2⟩:=dD hb
  refine⟨b,by rw [hagree m h2];exact h1,rfl,rfl,?_⟩
  exact(dM (hp:=(bZ s g fn args).ln) (fun _ _=>rfl) hρ b.c (hwfI.hp b (List.mem_of_getElem? hb))).symm
 have hSt:=hA.st.oe hsub (List.nil_sublist _) (fun _ h=>h)
 refine da hfn hbody ?_
 have hI:Inv ⟨W,(aN ρ α 0 (bZ s g fn args).hp).map (·.id),fun _=>False,fun _=>False⟩ ps [⟨(((aC args).map fun m=>Value.pointer (some ⟨(α m).b,0,none⟩))++(aC args).map fun m=>(α m).h).toArray,[],none⟩] ρ (bZ s g fn args) { tmps:=(ab ρ α args).toArray++Array.replicate (fn.ntmps-(ab ρ α args).toArray.size) undef,defers:=[] } W:=by
  refine⟨α,⟨nofun,nofun,rfl⟩,⟨hg.len,hg.fit,hg.kn⟩,hwfI,⟨by simp [bZ,aj],fun d u hd=>?_⟩,⟨⟨by simp [bZ],fun d u hd=>?_⟩,trivial⟩,jd (St.MW hSt) fun p hpm=>?_,fun m b hb=>?_,fun m b hb=>?_⟩
  ·rw [Array.getElem?_append]
   simp only [List.size_toArray,aj]
   simp only [bZ]at hd
   by_cases hlt:d<args.length
   ·rw [List.getElem?_append_left (by simpa using hlt),List.getElem?_map,List.getElem?_eq_getElem hlt]at hd
    simp only [Option.map_some,Option.some.injEq]at hd
    rw [if_pos hlt]
    simpa using du (ρ:=ρ) (α:=α) (by rw [List.getElem?_eq_getElem hlt,hd])
   rw [List.getElem?_append_right (by simpa using hlt),List.getElem?_replicate]at hd
   rw [if_neg hlt,Array.getElem?_replicate]
   simp only [List.length_map]at hd
   split at hd
   ·rename_i h9
    rw [if_pos h9]
    cases hd
    rfl
   cases hd
  ·have e:(((aC args).map fun m=>Value.pointer (some ⟨(α m).b,0,none⟩))++(aC args).map fun m=>(α m).h)=((aC args).map (fun n=>V.p n 0)++(aC args).map (fun n=>V.row n)).map (V.den ρ α):=by
    simp [V.den,Function.comp_def]
   rw [e]
   rw [show(aC args).map (fun n=>some (V.p n 0))++(aC args).map (fun n=>some (V.row n))=((aC args).map (fun n=>V.p n 0)++(aC args).map (fun n=>V.row n)).map some by simp [Function.comp_def]]at hd
   rw [List.getElem?_map,Option.map_eq_some_iff]at hd
   obtain⟨u',hu',hd⟩:=hd
   cases hd
   rw [List.getElem?_toArray,List.getElem?_map,hu']
   rfl
  ·rcases List.mem_append.1 hpm with hpm|hpm
   ·obtain⟨m,b,h1,h2⟩:=cB.1 hpm
    rw [ae.kj (by simp [ae.own,hkc m b h1])]at h2
    cases h2
   exact List.mem_append.2 (.inr hpm)
  ·exact⟨HV hwf hb,by simp only [ae.bo,hkc m b hb]⟩
  obtain⟨h1,h2⟩:=dD hb
  have h3:=hA.lens m b (by rw [hagreeL m h2];exact h1)
  have h4:=hwfI.ln b (List.mem_of_getElem? hb)
  unfold ae.jW ae.xs at h3 ⊢
  rw [← dM (hp:=(bZ s g fn args).ln) (α:=α) (α':=α) (fun _ _=>rfl) hρ b.c h4]
  exact h3
 have:=hrun ⟨W,(aN ρ α 0 (bZ s g fn args).hp).map (·.id),fun _=>False,fun _=>False⟩ [⟨(((aC args).map fun m=>Value.pointer (some ⟨(α m).b,0,none⟩))++(aC args).map fun m=>(α m).h).toArray,[],none⟩] (fun e W'=>Below W.heap.size W W'∧∃ α',e=.returned (v.den ρ α')∧(∀ m∈aC args,(α' m).b=(α m).b∧(α' m).h=(α m).h)∧St ⟨W,(aN ρ α 0 (bZ s g fn args).hp).map (·.id),fun _=>False,fun _=>False⟩ (aN ρ α' 0 hp') [] ps W') Gk 0 (bZ s g fn args) [.code body,.top fn] _ [] [] ρ _ W (fun h=>absurd h hgk) ⟨hps.1,fun _ h=>h.elim,fun _ h=>h.elim,Nat.le_trans hps.2.2.2.1 hA.st.bT.size,hps.2.2.2.2⟩ ?_ rfl rfl hI
 ·exact this
 rw [ht]
 simp only [VC]
 intro α' W' hF _ hS
 have hF2:=j0.kW (ux hk) hF
 have hα:∀ m∈aC args,(α' m).b=(α m).b∧(α' m).h=(α m).h:=fun m hm=>by
  obtain⟨j,hj⟩:=List.mem_iff_getElem?.1 hm
  have hjl:=(List.getElem?_eq_some_iff.1 hj).1
  have h1:=hF2.1.2 j (.p m 0) (by
   have:=(List.getElem?_eq_some_iff.1 hj).2
   simp [bZ,hjl,List.getElem?_append_left,this])
  have h2:=hF2.1.2 ((aC args).length+j) (.row m) (by simp [bZ,hj,List.getElem?_append_right])
  have hm2:(aC args)[j]=m:=by
   have:=(List.getElem?_eq_some_iff.1 hj).2
   exact this
  simp [hj,hjl,V.den,List.getElem?_append_left,List.getElem?_append_right]at h1 h2
  rw [hm2]at h1 h2
  exact⟨h1.symm,h2.symm⟩
 refine⟨⟨hS.bT.os,hS.bT.tape,hS.bT.output,hS.bT.size,fun b hb=>?_⟩,α',rfl,hα,hS.oe (.refl _) (.refl _) fun p h=>List.mem_append.2 (.inr h)⟩
 by_cases hm:b∈(aN ρ α 0 (bZ s g fn args).hp).map (·.id)
 ·obtain⟨e,he,rfl⟩:=List.mem_map.1 hm
  obtain⟨m,b0,h1,hch⟩:=iq he
  rw [Nat.zero_add]at hch
  have hk0:=hkc m b0 h1
  obtain⟨b',h2,h3,hk',h4,h5⟩:=kT hh m b0 h1 (by simp)
  have hbc:b'.c=b0.c:=by
   apply List.ext_getElem?
   intro j
   cases hq:b0.c[j]? with
   | some u=>exact h5 j u rfl hq
   | none=>rw [List.getElem?_eq_none_iff]at hq ⊢;omega
  have h8:ab ρ α' b'.c=ab ρ α b0.c:=by
   rw [hbc]
   exact fc (hp:=(bZ s g fn args).ln) (fun n hn=>by
    obtain⟨b,hb⟩:=cN.1 hn
    exact hα n (dD hb).2) (List.prefix_refl _) b0.c (hwfI.hp b0 (List.mem_of_getElem? h1))
  have hch':b'.ch ρ α' (0+m)=some e:=by
   rw [← hch]
   simp only [ae.ch,hk',hk0,Nat.zero_add,h8,h3,(hα m (dD h1).2).1]
  have h6:=hS.Ka (cU (k:=0) h2 hch')
  have h7:=hSt.Ka (cU (k:=0) h1 (by rw [Nat.zero_add];exact hch))
  rw [h6]
  exact h7.symm
 exact hS.bT.block b hb hm
theorem Ez{n:Nat}(hrun:jT C ps n)(hps:ll C w0 ps){Gk:jl}(hgk:Gk.ei≠12){g:FuncId}{fn:Func}{body:Code}{args:List V}{v:V}{hp':List (Option ae)}{stk':List (List (Option V))}(hfn:C.P.funcs[g]?=some fn)(hbody:fn.body=some body)
 (ht:run C Gk n 0 (bZ s g fn args) [.code body,.top fn]=.ret v hp' stk') (hlen:args.length≤fn.ntmps) (hwf:EN (bZ s g fn args)=true) (hh:iG [] gR 0 (bZ s g fn args).hp hp'=true) (hk:mD (bZ s g fn args).stk stk'=true) (hv:v.wf (bZ s g fn args).ln s.sh.length=true)
 (hg:Good ρ s) (hρ:ρ<+:ρ') {s':S} (hA:ay w0 ps T ρ' s' a W α) (hagree:∀ n∈aC args,s'.hp[n]?=s.hp[n]?) (hagreeL:∀ n∈aC args,s'.ln[n]?=s.ln[n]?) :
 Calls C.P g (ab ρ' α args).toArray W fun e W'=>e=.returned (v.den ρ' α)∧Below W.heap.size W W':=by
 refine(BS hrun hps hgk hfn hbody ht hlen hwf hh hk hg hρ hA hagree hagreeL).mono fun e W' h=>?_
 obtain⟨hb,α',rfl,hα,_⟩:=h
 refine⟨?_,hb⟩
 have hα2:∀ n,lv (bZ s g fn args).ln n=true→(α' n).b=(α n).b∧(α' n).h=(α n).h:=fun n hn=>by
  obtain⟨b,hb⟩:=cN.1 hn
  exact hα n (dD hb).2
 have h1:=V.ir (hp:=(bZ s g fn args).ln) hα2 (List.prefix_refl ρ) v (by rw [← hg.len];exact hv)
 have h2:=V.pU (hp:=(bZ s g fn args).ln) (α:=α) (α':=α) (fun _ _=>rfl) hρ v (by rw [← hg.len];exact hv)
 rw [h1,h2]
theorem FE{n:Nat}(hrun:jT C ps n)(hps:ll C w0 ps){Gk:jl}(hgk:Gk.ei≠12){all:Array Oper}{nm:Nat}{o:Oper}{c:Call}{f:Operand}{g:FuncId}{fn:Func}{body:Code}{args cap:List V}{v:V}{hp':List (Option ae)}{stk':List (List (Option V))}(hg:Good ρ s)(hwant:∀ (s':S) ρf a' W',s'.kn=s.kn→eV (slotsOf all o) [] [] s' s→Inv w0 ps T ρf s' a' W'→Region.wanted o (yielded all a'.tmps)=true)(hvs:o.op.operands.toList.mapM s.ev=some (.f (.func g) [] cap::args))
 (hop:o.op=.call c) (hcal:c.callee=.value f) (hen:enters C.P g=true) (hfn:C.P.funcs[g]?=some fn) (hbody:fn.body=some body)
 (ht:run C Gk n 0 (bZ s g fn (args++cap)) [.code body,.top fn]=.ret v hp' stk') (hlen:(args++cap).length≤fn.ntmps) (hwf:EN (bZ s g fn (args++cap))=true) (hh:iG [] gR 0 (bZ s g fn (args++cap)).hp hp'=true) (hk:mD (bZ s g fn (args++cap)).stk stk'=true) (hv:v.wf (bZ s g fn (args++cap)).ln s.sh.length=true) :
 BZ C rr w0 ps T ρ Q all nm o ⟨v,none,none,slotsOf all o,aC (args++cap),aC (args++cap)⟩ s s:=by
 intro ρf shf knf hρ hsh s' a' W' K hsame hag hI hK
 obtain⟨α,hA⟩:=hI
 have hkn:=mQ hρ hg.kn
 have hA':=hA.wk hkn
 have hfr:∀ x∈slotsOf all o,s'.fr[x]?=s.fr[x]?:=hag.fr
 have hhp:∀ m∈nm::aC (args++cap),s'.hp[m]?=s.hp[m]?:=hag.hp
 have hln:∀ m∈nm::aC (args++cap),s'.ln[m]?=s.ln[m]?:=hag.ln
 rw [if_pos (hwant (s'.wk s'.sh s.kn) ρf a' W' rfl ⟨hfr,(fun _ h=>nomatch h),(fun _ h=>nomatch h)⟩ ⟨α,hA'⟩)]
 have he:=cD hA'.good hA'.fm (mE (s:=s) (s':=s'.wk s'.sh s.kn) rfl (fun x hx=>hfr x (by simp [slotsOf,hx])) hvs)
 rw [hop]at he
 obtain⟨cal,ar,at'⟩:=c
 simp only at hcal
 subst hcal
 simp only [Op.operands,Call.operands,ab,V.den]at he
 simp at he
 obtain⟨h7,h8⟩:=he
 have hc:=Ez hrun hps hgk hfn hbody ht hlen hwf hh hk hv hg hρ hA (fun m hm=>hhp m (List.mem_cons_of_mem _ hm)) fun m hm=>hln m (List.mem_cons_of_mem _ hm)
 refine fk (by rw [hop];intro c h;cases h) ?_
 refine ij hop h7 (vs:=(ab ρf α (args++cap)).toArray) ?_ (cR hen _ _) (R:=fun u W2=>u=v.den ρf α∧Below W'.heap.size W' W2) (hc.mono fun e W2 h=>⟨_,h.1,rfl,h.2⟩) ?_
 ·exact Array.ext' (by simp [dB,h8])
 rintro u W2 ⟨rfl,hb⟩
 refine hK _ _ ⟨α,(hA.step hb).fq o.dst ?_ rfl⟩
 refine V.ej (hp:=(bZ s g fn (args++cap)).ln) (fun m hm=>?_) (?_:s.sh.length≤_) v hv
 ·obtain⟨b,hb⟩:=cN.1 hm
  obtain⟨h1,h2⟩:=dD hb
  exact cN.2 ⟨b,by rw [hln m (List.mem_cons_of_mem _ h2)];exact h1⟩
 rw [hg.len];exact List.IsPrefix.length_le hρ
theorem Fu{v:V}{b:ae}{nm:Nat}{o:Oper}{K:Act→World→Prop}(hI:ay w0 ps T ρ s a W α)(hnm:aW s nm)(hk:b.k=.cells)(hw:aP s nm v (some b) none=true)(hK:∀ a' W',Inv w0 ps T ρ (s.cX nm o.dst v (some b) none) a' W'→K a' W')
 {k:Nat} {W':World} (hS:St w0 (⟨k,(ab ρ α b.c).toArray,b.t⟩::aN ρ α 0 s.hp) (dp a s T) (gD w0 ρ α 0 s.hp++ps) W') {u:Value} (hu:∀ α',(α' nm).b=k→(∀ n,lv s.ln n=true→α' n=α n)→u=v.den ρ α'):K (a.put o.dst u) W':=by
 simp only [aP,nJ,Bool.and_eq_true,Bool.and_true,hI.good.len]at hw
 obtain⟨α',h1,h2,h3⟩:=hI.new hnm hk hw.2 hS
 exact hK _ _ ⟨α',h3.fq o.dst hw.1 (hu α' h1 h2)⟩
theorem FF{n:Nat}(hrun:jT C ps n)(hps:ll C w0 ps){Gk:jl}(hgk:Gk.ei≠12){all:Array Oper}{nm:Nat}{o:Oper}{c:Call}{f:Operand}{g:FuncId}{fn:Func}{body:Code}{args cap:List V}{v:V}{hp':List (Option ae)}{stk':List (List (Option V))}{r:Nat}{b:ae}(hg:Good ρ s)(hwant:∀ (s':S) ρf a' W',s'.kn=s.kn→eV (slotsOf all o) [] [] s' s→Inv w0 ps T ρf s' a' W'→Region.wanted o (yielded all a'.tmps)=true)(hvs:o.op.operands.toList.mapM s.ev=some (.f (.func g) [] cap::args))
 (hop:o.op=.call c) (hcal:c.callee=.value f) (hen:enters C.P g=true) (hfn:C.P.funcs[g]?=some fn) (hbody:fn.body=some body)
 (ht:run C Gk n 0 (bZ s g fn (args++cap)) [.code body,.top fn]=.ret v hp' stk') (hlen:(args++cap).length≤fn.ntmps) (hwf:EN (bZ s g fn (args++cap))=true) (hh:iG [] gR 0 (bZ s g fn (args++cap)).hp hp'=true) (hk:mD (bZ s g fn (args++cap)).stk stk'=true)
 (had:ua (bZ s g fn (args++cap)) v hp'=some (r,b)) (hro:v.gV (aC (args++cap)) r=true) (hwb:dc (bZ s g fn (args++cap)).ln s.sh.length b.c=true) (hw:aP s nm (v.o8 r nm) (some b) none=true) (hnm:aW s nm) :
 BZ C rr w0 ps T ρ Q all nm o ⟨v.o8 r nm,some b,none,slotsOf all o,aC (args++cap),aC (args++cap)++ct nm (v.o8 r nm) (some b) none⟩ s s:=by
 intro ρf shf knf hρ hsh s' a' W' K hsame hag hI hK
 obtain⟨α,hA⟩:=hI
 have hkn:=mQ hρ hg.kn
 have hA':=hA.wk hkn
 have hfr:∀ x∈slotsOf all o,s'.fr[x]?=s.fr[x]?:=hag.fr
 have hhp:∀ m∈nm::aC (args++cap),s'.hp[m]?=s.hp[m]?:=hag.hp
 have hln:∀ m∈nm::(aC (args++cap)++ct nm (v.o8 r nm) (some b) none),s'.ln[m]?=s.ln[m]?:=hag.ln
 rw [if_pos (hwant (s'.wk s'.sh s.kn) ρf a' W' rfl ⟨hfr,(fun _ h=>nomatch h),(fun _ h=>nomatch h)⟩ ⟨α,hA'⟩)]
 have he:=cD hA'.good hA'.fm (mE (s:=s) (s':=s'.wk s'.sh s.kn) rfl (fun x hx=>hfr x (by simp [slotsOf,hx])) hvs)
 rw [hop]at he
 obtain⟨cal,ar,at'⟩:=c
 simp only at hcal
 subst hcal
 simp only [Op.operands,Call.operands,ab,V.den]at he
 simp at he
 obtain⟨h7,h8⟩:=he
 have hc:=BS hrun hps hgk hfn hbody ht hlen hwf hh hk hg hρ hA (fun m hm=>hhp m (List.mem_cons_of_mem _ hm)) fun m hm=>hln m (List.mem_cons_of_mem _ (List.mem_append_left _ hm))
 have hwfI:=HW (m:=ρ.length) hwf hg.len
 obtain⟨r',hr1,hr2⟩:=Option.bind_eq_some_iff.1 had
 have hrn:(bZ s g fn (args++cap)).hp.length≤r':=by
  have:=List.find?_some hr1
  simpa using this
 obtain⟨b',hb1,hb2⟩:=Option.map_eq_some_iff.1 hr2
 simp only [Prod.mk.injEq]at hb2
 obtain⟨rfl,rfl⟩:=hb2
 obtain⟨b2,hb3,hb4⟩:=Option.bind_eq_some_iff.1 hb1
 have hbk:b2=b'∧b'.k=.cells:=by
  unfold jq at hb4
  split at hb4
  ·rename_i hkk
   obtain rfl:b2=b':=by simpa using hb4
   exact⟨rfl,hkk⟩
  cases hb4
 obtain⟨rfl,hbk⟩:=hbk
 have hpr:hp'[r']?=some (some b2):=by
  cases hq:hp'[r']? with
  | none=>simp [hq]at hb3
  | some x=>simp [hq]at hb3;rw [hb3]
 have hlive:∀ m∈aC (args++cap),lv s.ln m=true:=fun m hm=>by
  have h1:=hwfI.stk _ (List.mem_singleton.2 rfl) (.p m 0) (by simp;exact hm)
  obtain⟨b9,hb9⟩:=cN.1 (show lv (bZ s g fn (args++cap)).ln m=true by simpa [V.wf]using h1)
  exact cN.2 ⟨b9,(dD hb9).1⟩
 refine fk (by rw [hop];intro c h;cases h) ?_
 refine ij hop h7 (vs:=(ab ρf α (args++cap)).toArray) ?_ (cR hen _ _) (R:=fun u W2=>Below W'.heap.size W' W2∧∃ α',u=v.den ρ α'∧(∀ m∈aC (args++cap),(α' m).b=(α m).b∧(α' m).h=(α m).h)∧St ⟨W',(aN ρ α 0 (bZ s g fn (args++cap)).hp).map (·.id),fun _=>False,fun _=>False⟩ (aN ρ α' 0 hp') [] ps W2) (hc.mono fun e W2 h=>by
  obtain⟨h1,α',h2,h3⟩:=h
  exact⟨_,h2,h1,α',rfl,h3⟩) ?_
 ·exact Array.ext' (by simp [dB,h8])
 rintro u W2 ⟨hb,α',rfl,hα,hS⟩
 have hα2:∀ n,lv (bZ s g fn (args++cap)).ln n=true→(α' n).b=(α n).b∧(α' n).h=(α n).h:=fun n hn=>by
  obtain⟨b,hb⟩:=cN.1 hn
  exact hα n (dD hb).2
 have hch:b2.ch ρ α' (0+r')=some ⟨(α' r').b,(ab ρ α' b2.c).toArray,b2.t⟩:=by simp only [ae.ch,hbk,Nat.zero_add]
 have hm:=cU (k:=0) hpr hch
 have hden:ab ρ α' b2.c=ab ρf α b2.c:=by
  rw [hg.len]at hwb
  rw [fc (hp:=(bZ s g fn (args++cap)).ln) hα2 (List.prefix_refl ρ) b2.c hwb]
  exact(dM (hp:=(bZ s g fn (args++cap)).ln) (α:=α) (α':=α) (fun _ _=>rfl) hρ b2.c hwb).symm
 have hnew:W'.heap.size≤(α' r').b:=by
  rcases hS.CZ hm with h|h
  ·exact h
  exfalso
  obtain⟨e,he,hid⟩:=List.mem_map.1 h
  obtain⟨m,b0,h1,hch0⟩:=iq he
  rw [Nat.zero_add]at hch0
  have hk0:b0.k=.cells:=by
   simp only [EN,Bool.and_eq_true]at hwf
   have:=List.all_eq_true.1 hwf.2 _ (List.mem_of_getElem? h1)
   simp only [Bool.and_eq_true,decide_eq_true_eq]at this
   exact this.2
  obtain⟨b1,h2,h3,hk',h4,h5⟩:=kT hh m b0 h1 (by simp)
  have hmr:m≠r':=by
   have:=(List.getElem?_eq_some_iff.1 h1).1
   omega
  have hch1:b1.ch ρ α' (0+m)=some ⟨(α' m).b,(ab ρ α' b1.c).toArray,b1.t⟩:=by simp only [ae.ch,hk',hk0,Nat.zero_add]
  have hnd:((aN ρ α' 0 hp').map (·.id)).Nodup:=by
   have:=hS.nodup
   unfold aX at this
   exact(List.nodup_append.1 this).1
  have:=uu hnd hmr h2 (by rw [← Nat.zero_add m];exact hch1) hpr (by rw [← Nat.zero_add r'];exact hch)
  apply this
  show(α' m).b=(α' r').b
  rw [(hα m (dD h1).2).1,← hid]
  simp only [ae.ch,hk0]at hch0
  cases hch0
  rfl
 have hat:=hS.at_ hm
 rw [hden]at hat
 have hmade:=hA'.st.made hb hat hnew
 have hw':aP (s'.wk s'.sh s.kn) nm (v.o8 r' nm) (some b2) none=true :=
  j9 (s:=s) (s':=s'.wk s'.sh s.kn) hsame.lnl (hln nm (List.mem_cons_self ..)) (fun n hn=>hln n (by simp [hn])) (List.IsPrefix.length_le (by rw [hsame.sh];exact hsh)) hw
 refine Fu (s:=s'.wk s'.sh s.kn) hA' ⟨(hhp nm (List.mem_cons_self ..)).trans hnm.1,(hln nm (List.mem_cons_self ..)).trans hnm.2⟩ hbk hw' (fun a2 W3 h2=>hK a2 W3 (Nr hA.good.kn h2)) hmade fun α2 q1 q2=>?_
 have hw1:(v.o8 r' nm).wf (nJ s nm (some b2)) ρ.length=true:=by
  simp only [aP,Bool.and_eq_true]at hw
  rw [← hg.len];exact hw.1.1
 rw [V.pU (hp:=nJ s nm (some b2)) (α:=α2) (α':=α2) (fun _ _=>rfl) hρ _ hw1]
 refine(BF q1 (fun m hm=>?_) v hro).symm
 rw [q2 m (by
  have h1:=hlive m hm
  obtain⟨b9,hb9⟩:=cN.1 h1
  exact cN.2 ⟨b9,by show s'.ln[m]?=_;rw [hln m (List.mem_cons_of_mem _ (List.mem_append_left _ hm))];exact hb9⟩)]
 exact(hα m hm).1.symm
end
end SX
namespace SX
section
variable {C:Cx}{w0:eT}{ps:List (World→Prop)}{T T0:List TF}{R:Ending→World→Prop}{ρ ρ' ρ0:List Value}{s s0:S}{a:Act}{W:World}{α:Nat→AV}{Q:Exit→Act→World→Prop}{L:List (Cx→List Value→Prop)}
theorem ay.grow(h:ay w0 ps T ρ0 s0 a W α)(hρ:ρ0<+:ρ){sh:List Sh}{kn:List (Nat×List Nat×Value)}(hg:Good ρ (s0.wk sh kn)):ay w0 ps T ρ (s0.wk sh kn) a W α:=by
 have ha:∀ n,lv s0.ln n=true→α n=α n:=fun _ _=>rfl
 have hl:=List.IsPrefix.length_le hρ
 refine⟨h.defers,hg,⟨h.wf.fr.mono (fun _ h=>h) hl,fun f hf=>(h.wf.stk f hf).mono (fun _ h=>h) hl,h.wf.hp.mono (fun _ h=>h) hl,h.wf.ln.mono (fun _ h=>h) hl⟩,h.fm.to ha hρ h.wf.fr,h.kW.to ha hρ h.wf.stk,?_,pB ha hρ h.wf.hp h.rows,pn ha hρ h.wf.ln h.lens⟩
 show St w0 (aN ρ α 0 s0.hp) (dp a s0 T) (gD w0 ρ α 0 s0.hp++ps) W
 rw [pd ha hρ h.wf.hp h.live]
 exact jd h.st (fM (Bj ha hρ h.wf.hp h.live))
theorem od{o:Oper}{all:Array Oper}{g d:Nat}{want b:Bool}(hI:ay w0 ps T ρ s a W α)(hg:o.guard=some (g,want))(hd:(all[g]?).bind (·.dst)=some d)(hl:gg s d=some (.k (.bool b))):Region.wanted o (yielded all a.tmps)=(b == want):=by
 have:=iW hI.good hI.fm hl
 simp [Region.wanted,hg,yielded,hd,this,V.den]
theorem tV{o:Oper}{all:Array Oper}{g d:Nat}{want:Bool}{u:Array Value}(hI:ay w0 ps T ρ s a W α)(hg:o.guard=some (g,want))(hd:(all[g]?).bind (·.dst)=some d)(hl:gg s d=some (.k (.tuple u))):Region.wanted o (yielded all a.tmps)=false:=by
 have:=iW hI.good hI.fm hl
 simp [Region.wanted,hg,yielded,hd,this,V.den]
theorem lV{s s':S}{d:Nat}(hk:s'.kn=s.kn)(hf:s'.fr[d]?=s.fr[d]?):gg s' d=gg s d:=by unfold gg;rw [hk,hf]
theorem Good.br(hg:Good ρ s){i:Nat}{p:List Nat}{v:Value}(hi:i<s.sh.length)(hv:p.foldl comp (ρ.getD i undef)=v):Good ρ (s.dec i p v) :=
 ⟨hg.len,hg.fit,fun e he=>by
  rcases List.mem_cons.1 he with rfl|he
  ·exact⟨by rw [← hg.len];exact hi,hv⟩
  exact hg.kn e he⟩
theorem mJ{s:S}{n:Nat}(h:cS s n=true):aW s n:=by
 unfold cS at h
 split at h
 ·exact⟨by assumption,by assumption⟩
 cases h
theorem pf{C:Cx}{w0:eT}{ps:List (World→Prop)}{ρ:List Value}{s:S}{R:Ending→World→Prop}{T0:List TF}{L:List (Cx→List Value→Prop)}{i:Nat}{b:Bool}{t:Tree}(h:VC C w0 ps T0 R L ρ (r9 C s i b t)):VC C w0 ps T0 R L ρ t:=by
 unfold r9 at h
 split at h
 ·simp [VC]at h
 exact h
def Gg(C:Cx)(inl:FuncId→Bool)(sub:S→List It→Tree)(all:Array Oper)(base:Nat)(cont:S→Tree)(tail:S→List Oper→Tree)(n:Nat)(s:S)(ds:List cr)(o:Oper)(rest:List Oper):Tree :=
 match o.op.operands.toList.mapM s.ev with
  | none=>.bad 32 [o.op]
  | some vs=>match dq C s.sh (base+ds.length) o.op vs (s.iA o.op vs)with
   | .ef v new wr=>if aP s (base+ds.length) v new wr && cS s (base+ds.length)then bz C inl sub all base cont tail n (s.cX (base+ds.length) o.dst v new wr) (ds++[⟨v,new,wr,slotsOf all o,gb s.hp o.op vs,eG o.op vs++ct (base+ds.length) v new wr⟩]) rest else .bad 33 [o.op]
   | .df q args sh mk new wr=>if dc s.ln s.sh.length args && q.wf s.ln s.sh.length && aP (s.ext sh) (base+ds.length) (bh s.sh.length sh mk) new wr && cS s (base+ds.length)then .df q args sh (bz C inl sub all base cont tail n ((s.ext sh).cX (base+ds.length) o.dst (bh s.sh.length sh mk) new wr) (ds++[⟨bh s.sh.length sh mk,new,wr,slotsOf all o,gb s.hp o.op vs,eG o.op vs++ct (base+ds.length) (bh s.sh.length sh mk) new wr⟩]) rest)else .bad 34 [o.op]
   | .br i p=>if i<s.sh.length then .br i p (r9 C s i true (bz C inl sub all base cont tail n (s.dec i p (.bool true)) ds (o::rest))) (r9 C s i false (bz C inl sub all base cont tail n (s.dec i p (.bool false)) ds (o::rest)))else .bad 35 [o.op]
   | .sp i p m=>if i<s.sh.length then .sp i p ((List.range m).map fun(j:Nat)=>bz C inl sub all base cont tail n (s.dec i p (.int .i64 (j:Int))) ds (o::rest))else .bad 36 [o.op]
   | .no=>if HG C.tl vs && vt base all.toList ds then tail s (o::rest)else match o.op,vs with
    | .call c,.f (.func g) [] cap::args=>match c.callee,C.P.funcs[g]?,enters C.P g && inl g with
     | .value _,some fn,true=>match fn.body with
      | some body=>if(args++cap).length≤fn.ntmps && EN (bZ s g fn (args++cap))then
       match sub (bZ s g fn (args++cap)) [.code body,.top fn]with
       | .ret v hp' stk'=>if iG [] gR 0 (bZ s g fn (args++cap)).hp hp' && mD (bZ s g fn (args++cap)).stk stk' && v.wf (bZ s g fn (args++cap)).ln s.sh.length then bz C inl sub all base cont tail n (s.put o.dst v) (ds++[⟨v,none,none,slotsOf all o,aC (args++cap),aC (args++cap)⟩]) rest else match ua (bZ s g fn (args++cap)) v hp' with
        | some (r,b)=>if iG [] gR 0 (bZ s g fn (args++cap)).hp hp' && mD (bZ s g fn (args++cap)).stk stk' && v.gV (aC (args++cap)) r && dc (bZ s g fn (args++cap)).ln s.sh.length b.c && aP s (base+ds.length) (v.o8 r (base+ds.length)) (some b) none && cS s (base+ds.length)then bz C inl sub all base cont tail n (s.cX (base+ds.length) o.dst (v.o8 r (base+ds.length)) (some b) none) (ds++[⟨v.o8 r (base+ds.length),some b,none,slotsOf all o,aC (args++cap),aC (args++cap)++ct (base+ds.length) (v.o8 r (base+ds.length)) (some b) none⟩]) rest else .bad 47 [o.op]
        | none=>.bad 42 [o.op]
       | t=>match t with
        | .bad n l=>.bad (n+100) l
        | _=>.bad 43 [o.op]
       else .bad 44 [o.op]
      | none=>.bad 45 [o.op]
     | _,_,_=>.bad 37 [o.op]
    | _,_=>.bad 46 [o.op]
theorem Ja{rr:Option Nat}{m:Nat}{Gk:jl}{inl:FuncId→Bool}{all:Array Oper}{base id:Nat}{cont:S→Tree}{tail:S→List Oper→Tree}(hC:C.Ok)(hps:ll C w0 ps)(hrun:jT C ps m)(hgk:Gk.ei≠12)(hmix:C.P.follows .mixedOrders=true)(hI0:Inv w0 ps T ρ0 s0 a W)
 (hcont:∀ s' ρ',VC C w0 ps T0 R L ρ' (cont s')→ρ0<+:ρ'→∀ a' W',Inv w0 ps T ρ' s' a' W'→Q .normal a' W')
 (htail:∀ s' ρ' l,VC C w0 ps T0 R L ρ' (tail s' l)→ρ0<+:ρ'→(∀ c a' W',¬ Q (.panic c) a' W')∧∀ a' W',Inv w0 ps T ρ' s' a' W'→eN rr C.P all Q l a' W') :
 ∀ (n:Nat) (s:S) (ds:List cr) (rest pre:List Oper) (ρ:List Value),all.toList=pre++rest→pre.length=ds.length→ρ0<+:ρ→VC C w0 ps T0 R L ρ (bz C inl (fun s' it=>run C Gk m 0 s' it) all base cont tail n s ds rest)→Good ρ s →
  s=(bR base (fun _=>true) 0 (pre.zip ds) s0).wk s.sh s.kn →
  (∀ (i:Nat) (o:Oper) (d:cr),(pre.zip ds)[i]?=some (o,d)→∀ ρf shf knf,ρ<+:ρf→s.sh<+:shf→tZ C rr w0 ps T ρf Q all (base+i) o d ((bR base (fun _=>true) 0 ((pre.zip ds).take i) s0).wk shf knf)) →
  jX rr C.P (Code.region id all true) Q a W:=by
 intro n
 induction n with
 | zero=>intro s ds rest pre ρ _ _ _ hv;simp [bz,VC]at hv
 | succ n ih =>
  intro s ds rest pre ρ hall hlen hρ hv hg hs hh
  unfold bz at hv
  dsimp only at hv
  split at hv
  ·-- the end
   split at hv
   ·rename_i hord
    have hpre:all=pre.toArray:=by rw [← Array.toArray_toList (xs:=all),hall];simp
    subst hpre
    obtain⟨α,hA⟩:=hI0
    have hgs:Good ρ (s0.wk s.sh s.kn):=⟨hg.len,hg.fit,hg.kn⟩
    have hA':=hA.grow hρ hgs
    refine wR (base:=base) (ds:=ds) (s0:=s0.wk s.sh s.kn) hmix (by simpa using hord) (fun i o d hd=>?_) ⟨α,hA'⟩ fun a' W' h=>?_
    ·have:=hh i o d hd ρ s.sh s.kn (List.prefix_refl _) (List.prefix_refl _)
     have e2:=pK (base:=base) (pre.zip ds) 0 i (s0.wk s.sh s.kn)
     simp only [Nat.zero_add]at e2
     rw [e2,nE]
     exact this
    refine hcont s ρ hv hρ a' W' ?_
    rw [nE,← hs]at h
    exact h
   simp [VC]at hv
  rename_i o rest
  have hnm:base+ds.length=base+(0+(pre.zip ds).length):=by simp [hlen]
  have next:∀ (d:cr) (s1 sx:S) (ρ1:List Value),s1=(s.cX (base+ds.length) o.dst d.v d.new d.wr).wk s1.sh s1.kn→ρ<+:ρ1→s.sh<+:s1.sh→sx.sh=s1.sh→Good ρ1 s1→BZ C rr w0 ps T ρ1 Q all (base+ds.length) o d sx s →
   VC C w0 ps T0 R L ρ1 (bz C inl (fun s' it=>run C Gk m 0 s' it) all base cont tail n s1 (ds++[d]) rest)→jX rr C.P (Code.region id all true) Q a W:=by
   intro d s1 sx ρ1 hs1 hρ1 hsh1 hsx hg1 hH hv1
   have hz:(pre++[o]).zip (ds++[d])=pre.zip ds++[(o,d)]:=by rw [List.zip_append hlen];rfl
   refine ih s1 (ds++[d]) rest (pre++[o]) ρ1 (by rw [hall];simp) (by simp [hlen]) (hρ.trans hρ1) hv1 hg1 ?_ ?_
   ·rw [hz,iK]
    simp only [bR,if_true]
    rw [← hnm]
    have e2:((bR base (fun _=>true) 0 (pre.zip ds) s0).cX (base+ds.length) o.dst d.v d.new d.wr).wk s1.sh s1.kn=(s.cX (base+ds.length) o.dst d.v d.new d.wr).wk s1.sh s1.kn:=by
     rw [hs,lT];rfl
    rw [e2]
    exact hs1
   intro i o' d' hi ρf shf knf hρf hshf
   rw [hz]at hi ⊢
   by_cases hlt:i<(pre.zip ds).length
   ·rw [List.getElem?_append_left hlt]at hi
    rw [List.take_append_of_le_length (by omega)]
    exact hh i o' d' hi ρf shf knf (hρ1.trans hρf) (hsh1.trans hshf)
   have hi0:i=(pre.zip ds).length:=by
    have:=(List.getElem?_eq_some_iff.1 hi).1
    simp only [List.length_append,List.length_singleton]at this
    omega
   subst hi0
   rw [List.getElem?_append_right (by omega),Nat.sub_self]at hi
   obtain⟨rfl,rfl⟩:o=o'∧d=d':=by simpa using hi
   rw [List.take_left' rfl]
   have:=hH ρf shf knf hρf (by rw [hsx];exact hshf)
   rw [hs]at this
   have hl:(pre.zip ds).length=ds.length:=by simp [hlen]
   rw [hl]
   exact this
  have again:∀ (i:Nat) (p:List Nat) (v:Value),i<s.sh.length→p.foldl comp (ρ.getD i undef)=v→VC C w0 ps T0 R L ρ (bz C inl (fun s' it=>run C Gk m 0 s' it) all base cont tail n (s.dec i p v) ds (o::rest))→jX rr C.P (Code.region id all true) Q a W:=by
   intro i p v hi hu hv1
   refine ih (s.dec i p v) ds (o::rest) pre ρ hall hlen hρ hv1 (hg.br hi hu) ?_ hh
   have:s.dec i p v=s.wk s.sh ((i,p,v)::s.kn):=rfl
   rw [this]
   conv=>lhs;rw [hs]
   rfl
  have put_eff:∀ v,s.put o.dst v=(s.cX (base+ds.length) o.dst v none none).wk s.sh s.kn:=fun v=>by cases o.dst<;>rfl
  have skip:(∀ (s':S) ρf a' W',s'.kn=s.kn→eV (slotsOf all o) [] [] s' s→Inv w0 ps T ρf s' a' W'→Region.wanted o (yielded all a'.tmps)=false)→VC C w0 ps T0 R L ρ (bz C inl (fun s' it=>run C Gk m 0 s' it) all base cont tail n (s.put o.dst (.k undef)) (ds++[⟨.k undef,none,none,slotsOf all o,[],[]⟩]) rest)→jX rr C.P (Code.region id all true) Q a W:=by
   intro hwant hv1
   have hsh:(s.put o.dst (.k undef)).sh=s.sh:=by cases o.dst<;>rfl
   have hkn:(s.put o.dst (.k undef)).kn=s.kn:=by cases o.dst<;>rfl
   exact next _ _ s ρ (by rw [hsh,hkn];exact put_eff _) (List.prefix_refl _) (by rw [hsh];exact List.prefix_refl _) hsh.symm ⟨by rw [hsh];exact hg.len,by rw [hsh];exact hg.fit,by rw [hkn];exact hg.kn⟩ (C0 hwant hg) hv1
  have go:∀ (hwant:∀ (s':S) ρf a' W',s'.kn=s.kn→eV (slotsOf all o) [] [] s' s→Inv w0 ps T ρf s' a' W'→Region.wanted o (yielded all a'.tmps)=true),
   VC C w0 ps T0 R L ρ (Gg C inl (fun s' it=>run C Gk m 0 s' it) all base cont tail n s ds o rest)→jX rr C.P (Code.region id all true) Q a W:=by
   intro hwant hv
   unfold Gg at hv
   split at hv
   ·simp [VC]at hv
   rename_i vs hvs
   split at hv
   ·rename_i v new wr hpl
    split at hv
    ·rename_i hw
     simp only [Bool.and_eq_true]at hw
     have hnone:=mJ hw.2
     have hsh:(s.cX (base+ds.length) o.dst v new wr).sh=s.sh:=(ee ..).sh
     have hkn:(s.cX (base+ds.length) o.dst v new wr).kn=s.kn:=(ee ..).kn
     exact next ⟨v,new,wr,slotsOf all o,gb s.hp o.op vs,eG o.op vs++ct (base+ds.length) v new wr⟩ _ s ρ rfl (List.prefix_refl _) (by rw [hsh];exact List.prefix_refl _) hsh.symm ⟨by rw [hsh];exact hg.len,by rw [hsh];exact hg.fit,by rw [hkn];exact hg.kn⟩ (IP hg hwant hvs hpl hw.1 hnone) hv
    simp [VC]at hv
   ·rename_i q args sh mk new wr hpl
    split at hv
    ·rename_i hw
     simp only [Bool.and_eq_true]at hw
     obtain⟨⟨⟨h1,h2⟩,h3⟩,h4⟩:=hw
     simp only [VC]at hv
     obtain⟨v,hrel,hfit,hv⟩:=hv.resolve_right fun⟨_,_,hq,_⟩=>m3 h2 (hq fun _=>default)
     have hsh:((s.ext sh).cX (base+ds.length) o.dst (bh s.sh.length sh mk) new wr).sh=(s.ext sh).sh:=(ee ..).sh
     have hkn:((s.ext sh).cX (base+ds.length) o.dst (bh s.sh.length sh mk) new wr).kn=s.kn:=(ee ..).kn
     have hge:=hg.ext (h:=sh) hfit
     exact next ⟨bh s.sh.length sh mk,new,wr,slotsOf all o,gb s.hp o.op vs,eG o.op vs++ct (base+ds.length) (bh s.sh.length sh mk) new wr⟩ _ (s.ext sh) (ρ++[v]) (by
      rw [hsh,hkn]
      exact lT s (s.ext sh).sh s.kn _ _ _ _ _) ⟨[v],rfl⟩ (by rw [hsh];exact⟨[sh],rfl⟩) hsh.symm ⟨by rw [hsh];exact hge.len,by rw [hsh];exact hge.fit,by rw [hkn];exact hge.kn⟩
      (IM hC hps hg hwant hvs hpl hrel h1 h2 hfit h3 (mJ h4)) hv
    simp [VC]at hv
   ·rename_i i p hpl
    split at hv
    ·rename_i hi
     simp only [VC]at hv
     obtain⟨b,hb,hbt,hbf⟩:=hv
     cases b
     ·exact again i p _ hi hb (pf (hbf rfl))
     exact again i p _ hi hb (pf (hbt rfl))
    simp [VC]at hv
   ·rename_i i p k hpl
    split at hv
    ·rename_i hi
     simp only [VC]at hv
     obtain⟨⟨j,hj,hu⟩,hv⟩:=hv
     have hj':j<k:=by simpa using hj
     have:=yD (j:=j) hv (t:=bz C inl (fun s' it=>run C Gk m 0 s' it) all base cont tail n (s.dec i p (.int .i64 (j:Int))) ds (o::rest)) (by simp [hj']) (by rw [hu,Nat.zero_add])
     exact again i p _ hi hu this
    simp [VC]at hv
   split at hv
   ·rename_i htl
    simp only [Bool.and_eq_true]at htl
    obtain⟨_,htl⟩:=htl
    obtain⟨hQ,h9⟩:=htail s ρ (o::rest) hv hρ
    have hpre:all=(pre++o::rest).toArray:=by rw [← Array.toArray_toList (xs:=all),hall]
    subst hpre
    obtain⟨α,hA⟩:=hI0
    have hgs:Good ρ (s0.wk s.sh s.kn):=⟨hg.len,hg.fit,hg.kn⟩
    have hA':=hA.grow hρ hgs
    have hz:(pre++o::rest).zip ds=pre.zip ds:=by
     rw [← List.append_nil ds,List.zip_append hlen];simp
    refine CN (base:=base) (ds:=ds) (s0:=s0.wk s.sh s.kn) hmix hQ (by simpa using htl) (fun i o d hd=>?_) ⟨α,hA'⟩ fun a' W' h=>?_
    ·rw [hz]at hd ⊢
     have:=hh i o d hd ρ s.sh s.kn (List.prefix_refl _) (List.prefix_refl _)
     have e2:=pK (base:=base) (pre.zip ds) 0 i (s0.wk s.sh s.kn)
     simp only [Nat.zero_add]at e2
     rw [e2,nE]
     exact this
    rw [hz,nE,← hs]at h
    simpa [← hlen]using h9 a' W' h
   split at hv
   ·rename_i c g cap args hop _ _
    split at hv
    ·rename_i f fn hcal hfn hen
     split at hv
     ·rename_i body hbody
      split at hv
      ·rename_i hw
       simp only [Bool.and_eq_true,decide_eq_true_eq]at hw hen
       split at hv
       ·rename_i v hp' stk' ht
        split at hv
        ·rename_i hc
         simp only [Bool.and_eq_true]at hc
         have hsh:(s.put o.dst v).sh=s.sh:=by cases o.dst<;>rfl
         have hkn:(s.put o.dst v).kn=s.kn:=by cases o.dst<;>rfl
         exact next ⟨v,none,none,slotsOf all o,aC (args++cap),aC (args++cap)⟩ _ s ρ (by rw [hsh,hkn];exact put_eff _) (List.prefix_refl _) (by rw [hsh];exact List.prefix_refl _) hsh.symm ⟨by rw [hsh];exact hg.len,by rw [hsh];exact hg.fit,by rw [hkn];exact hg.kn⟩
          (FE hrun hps hgk hg hwant hvs hop hcal hen.1 hfn hbody ht hw.1 hw.2 hc.1.1 hc.1.2 hc.2) hv
        split at hv
        ·rename_i r b had
         split at hv
         ·rename_i hc
          simp only [Bool.and_eq_true]at hc
          obtain⟨⟨⟨⟨⟨c1,c2⟩,c3⟩,c4⟩,c5⟩,c6⟩:=hc
          have hsh:(s.cX (base+ds.length) o.dst (v.o8 r (base+ds.length)) (some b) none).sh=s.sh:=by cases o.dst<;>rfl
          have hkn:(s.cX (base+ds.length) o.dst (v.o8 r (base+ds.length)) (some b) none).kn=s.kn:=by cases o.dst<;>rfl
          exact next ⟨v.o8 r (base+ds.length),some b,none,slotsOf all o,aC (args++cap),aC (args++cap)++ct (base+ds.length) (v.o8 r (base+ds.length)) (some b) none⟩ _ s ρ (by rw [hsh,hkn];cases o.dst<;>rfl) (List.prefix_refl _) (by rw [hsh];exact List.prefix_refl _) hsh.symm ⟨by rw [hsh];exact hg.len,by rw [hsh];exact hg.fit,by rw [hkn];exact hg.kn⟩
           (FF hrun hps hgk hg hwant hvs hop hcal hen.1 hfn hbody ht hw.1 hw.2 c1 c2 had c3 c4 c5 (mJ c6)) hv
         simp [VC]at hv
        simp [VC]at hv
       split at hv<;>simp [VC]at hv
      simp [VC]at hv
     simp [VC]at hv
    simp [VC]at hv
   simp [VC]at hv
  split at hv
  ·rename_i hgd
   exact go (fun s' ρf a' W' _ _ _=>by simp [Region.wanted,hgd]) hv
  rename_i g want hgd
  split at hv
  ·simp [VC]at hv
  rename_i d hd
  have hds:d∈slotsOf all o:=by simp [slotsOf,hgd,hd]
  split at hv
  ·rename_i u hl
   exact skip (fun s' ρf a' W' hk hag ⟨α,hA⟩=>tV hA hgd hd (by rw [lV hk (hag.fr d hds)];exact hl)) hv
  ·rename_i b hl
   split at hv
   ·rename_i hb
    exact go (fun s' ρf a' W' hk hag ⟨α,hA⟩=>(od hA hgd hd (by rw [lV hk (hag.fr d hds)];exact hl)).trans hb) hv
   rename_i hb
   exact skip (fun s' ρf a' W' hk hag ⟨α,hA⟩=>(od hA hgd hd (by rw [lV hk (hag.fr d hds)];exact hl)).trans (by simpa using hb)) hv
  ·rename_i i p hl
   split at hv
   ·rename_i hi
    simp only [VC]at hv
    obtain⟨b,hb,hbt,hbf⟩:=hv
    cases b
    ·exact again i p _ hi hb (pf (hbf rfl))
    exact again i p _ hi hb (pf (hbt rfl))
   simp [VC]at hv
  simp [VC]at hv
end
end SX
namespace SX
variable (C:Cx)(N:List Arg)
theorem qE:dq (C.plus N)=dq C:=by cases C;kernel_rfl
theorem zL:qj (C.plus N)=qj C:=by cases C;kernel_rfl
theorem CY:CX (C.plus N)=CX C:=by cases C;kernel_rfl
theorem CH:r9 (C.plus N)=r9 C:=by cases C;kernel_rfl
theorem CI:wP (C.plus N)=wP C:=by cases C;kernel_rfl
theorem sj(inl:FuncId→Bool)(sub:S→List It→Tree)(all:Array Oper)(base:Nat)(cont:S→Tree)(tail:S→List Oper→Tree):∀ n,bz (C.plus N) inl sub all base cont tail n=bz C inl sub all base cont tail n:=by
 intro n
 induction n with
 | zero=>rfl
 | succ n ih =>
  funext s ds ops
  unfold bz
  simp only [ih,qE,CH]
  rfl
theorem u5:bz (C.plus N)=bz C:=by
 funext inl sub all base cont tail n
 exact sj C N inl sub all base cont tail n
theorem jc:∀ (n:Nat)(G:jl)(lv:Nat)(s:S)(items:List It),run (C.plus N) G n lv s items=run C G n lv s items:=by
 intro n
 induction n with
 | zero=>intro G lv s items;rfl
 | succ n ih =>
  have e:∀ G,run (C.plus N) G n=run C G n:=fun G=>funext fun lv=>funext fun s=>funext fun items=>ih G lv s items
  intro G lv s items
  unfold run
  simp only [e,qE,zL,CY,CI,u5]
  rfl
end SX
end Go.Proofs.YtidekfgkpindbaaGreatDoor
