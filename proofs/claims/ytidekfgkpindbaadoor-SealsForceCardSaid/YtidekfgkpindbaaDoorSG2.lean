/-
  Texts behind the statement, part 2.
-/
import Derived.Test.YtidekfgkpindbaaDoorSG1
set_option linter.unusedSimpArgs false
set_option linter.unusedVariables false
namespace Go.Proofs.YtidekfgkpindbaaDoor
open Go Go.RowKit
namespace SX
def S.eff(s:S)(nm:Nat)(dst:Option Tmp)(v:V)(new:Option Blk)(wr:Option (Nat×Blk)):S :=
 (match wr with
  | some (n,b)=>(match new with
   | some c=>s.make nm c
   | none=>s).lay n b
  | none=>match new with
   | some c=>s.make nm c
   | none=>s).put dst v
def effH(s:S)(nm:Nat)(new:Option Blk):List (Option Blk):=match new with
 | some b=>s.ln.set nm (some b)
 | none=>s.ln
def effWf(s:S)(nm:Nat)(v:V)(new:Option Blk)(wr:Option (Nat×Blk)):Bool:=v.wf (effH s nm new) s.sh.length && (match new with
 | some b=>wfL s.ln s.sh.length b.c
 | none=>true) && (match wr with
 | some (n,b)=>wfL s.ln s.sh.length b.c && lv s.ln n
 | none=>true)
theorem mapM_den{ρ:List Value}{s:S}(hg:Good ρ s){α:Nat→AV}{a:Act}(hf:Fm ρ α s.fr a.tmps):∀ {xs:List Operand}{vs:List V},xs.mapM s.ev=some vs→xs.map a.eval=denL ρ α vs
 | [],vs,h=>by
  simp at h
  subst h
  rfl
 | x::xs,vs,h=>by
  simp only [List.mapM_cons,Option.bind_eq_bind,Option.bind_eq_some_iff]at h
  obtain⟨v,hv,vs',hvs,h⟩:=h
  simp at h
  subst h
  simp [denL,ev_den hg hf hv,mapM_den hg hf hvs]
section
variable {C:Cx}{w0:Org}{ps:List (World→Prop)}{T:List TF}{ρ:List Value}{s:S}{a:Act}{W:World}{α:Nat→AV}{K:Act→World→Prop}{Q:Exit→Act→World→Prop}{o:Oper}{nm:Nat}
theorem fin_pure{v:V}(hI:InvA w0 ps T ρ s a W α)(hw:effWf s nm v none none=true)(hK:∀ a' W',Inv w0 ps T ρ (s.eff nm o.dst v none none) a' W'→K a' W'):K (a.put o.dst (v.den ρ α)) W :=
 hK _ _ ⟨α,hI.put o.dst (by have:=hw;simp only [effWf,effH,Bool.and_true,hI.good.len]at this;exact this)⟩
theorem fin_new{v:V}{b:Blk}(hI:InvA w0 ps T ρ s a W α)(hnm:freeIn s nm)(hk:b.k=.cells)(hw:effWf s nm v (some b) none=true)(hK:∀ a' W',Inv w0 ps T ρ (s.eff nm o.dst v (some b) none) a' W'→K a' W')
 {k:Nat} {W':World} (hS:St w0 (⟨k,(denL ρ α b.c).toArray,b.t⟩::chs ρ α 0 s.hp) (osA a s T) (exs w0 ρ α 0 s.hp++ps) W') {u:Value} (hu:∀ α',(α' nm).b=k→u=v.den ρ α'):K (a.put o.dst u) W':=by
 simp only [effWf,effH,Bool.and_eq_true,Bool.and_true,hI.good.len]at hw
 obtain⟨α',h1,h2,h3⟩:=hI.new hnm hk hw.2 hS
 exact hK _ _ ⟨α',h3.put_any o.dst hw.1 (hu α' h1)⟩
theorem fin_row{v:V}{b:Blk}(hI:InvA w0 ps T ρ s a W α)(hnm:freeIn s nm)(hbo:b.own=true)(hw:effWf s nm v (some b) none=true)(hK:∀ a' W',Inv w0 ps T ρ (s.eff nm o.dst v (some b) none) a' W'→K a' W')
 (A:AV) {W':World} (hS:∀ α',α' nm=A→(∀ n,lv s.ln n=true→α' n=α n)→denL ρ α' b.c=denL ρ α b.c→chs ρ α' 0 s.hp=chs ρ α 0 s.hp→St w0 (chs ρ α' 0 (s.hp.set nm (some b))) (osA a s T) (exs w0 ρ α 0 s.hp++ps) W'∧b.rowOk ρ α' nm) {u:Value} (hu:∀ α',α' nm=A→u=v.den ρ α'):K (a.put o.dst u) W':=by
 simp only [effWf,effH,Bool.and_eq_true,Bool.and_true,hI.good.len]at hw
 obtain⟨α',h1,h2,h3⟩:=hI.new' hnm hw.2 A fun α' q1 q2 q3 q4=>by
  have:=hS α' q1 q2 q3 q4
  rw [Blk.own_ex hbo]
  exact this
 exact hK _ _ ⟨α',h3.put_any o.dst hw.1 (hu α' h1)⟩
theorem fin_ext{v:V}{b:Blk}{sz:Nat}(hI:InvA w0 ps T ρ s a W α)(hnm:freeIn s nm)(hk:b.k=.ext sz)(hw:effWf s nm v (some b) none=true)(hK:∀ a' W',Inv w0 ps T ρ (s.eff nm o.dst v (some b) none) a' W'→K a' W')
 (A:AV) {W':World} (hS:St w0 (chs ρ α 0 s.hp) (osA a s T) (exs w0 ρ α 0 s.hp++ps) W') (h0:0<sz) (hl:∃ ad len cap,A.h=.slice ad len cap∧(b.xs ρ α).length=len*sz∧len≤cap∧(0<len→ad.isSome=true)) (hx:∀ W2,Same (muts (chs ρ α 0 s.hp) (osA a s T)) W' W2→exFact w0 ⟨A.h,sz,b.xs ρ α⟩ W2) {u:Value} (hu:∀ α',α' nm=A→(∀ n,lv s.ln n=true→α' n=α n)→u=v.den ρ α'):K (a.put o.dst u) W':=by
 simp only [effWf,effH,Bool.and_eq_true,Bool.and_true,hI.good.len]at hw
 obtain⟨α',h1,h2,h3⟩:=hI.newE hnm hk hw.2 A hS h0 hl hx
 exact hK _ _ ⟨α',h3.put_any o.dst hw.1 (hu α' h1 h2)⟩
theorem fin_wr{v:V}{n:Nat}{b b':Blk}(hI:InvA w0 ps T ρ s a W α)(hn:s.hp[n]?=some (some b))(hr:b'.rowOk ρ α n)(hbo:b'.own=true)(hw:effWf s nm v none (some (n,b'))=true)(hK:∀ a' W',Inv w0 ps T ρ (s.eff nm o.dst v none (some (n,b'))) a' W'→K a' W')
 {W':World} (hS:St w0 (chs ρ α 0 (s.hp.set n (some b'))) (osA a s T) (exs w0 ρ α 0 s.hp++ps) W') {u:Value} (hu:u=v.den ρ α):K (a.put o.dst u) W':=by
 simp only [effWf,effH,Bool.and_eq_true,Bool.and_true,hI.good.len]at hw
 refine hK _ _ ⟨α,(hI.wr' hn hw.2.1 hr hbo hS).put_any o.dst hw.1 hu⟩
theorem denL_len(ρ:List Value)(α:Nat→AV)(l:List V):(denL ρ α l).length=l.length:=by rw [denL_map];simp
theorem denL_at{ρ:List Value}{α:Nat→AV}{l:List V}{i:Nat}{v:V}(h:l[i]?=some v):(denL ρ α l)[i]?=some (v.den ρ α):=by rw [denL_map];simp [h]
theorem denL_drop(ρ:List Value)(α:Nat→AV)(l:List V)(i n:Nat):denL ρ α ((l.drop i).take n)=((denL ρ α l).drop i).take n:=by simp [denL_map,List.map_drop,List.map_take]
theorem denL_app(ρ:List Value)(α:Nat→AV)(l m:List V):denL ρ α (l++m)=denL ρ α l++denL ρ α m:=by simp [denL_map]
theorem ext_eq(c:List Value)(o n:Nat):c.toArray.extract o (o+n)=((c.drop o).take n).toArray:=by
 apply Array.ext'
 simp [List.take_drop]
theorem one_ok{ρ:List Value}{s:S}(hg:Good ρ s){sh:List Sh}(hsh:sh<+:s.sh)(α:Nat→AV):∀ {v:V},v.one sh=true→(v.den ρ α).oneCell'=true
 | .k v,h=>h
 | .x i path,h=>by
  simp only [V.one]at h
  split at h
  ·rename_i hh hs
   obtain⟨r,hr⟩:=hsh
   exact leaf_one path hh _ h (hg.fit i hh (by rw [← hr,List.getElem?_append_left (List.getElem?_eq_some_iff.1 hs).1];exact hs))
  cases h
 | .p _ _,_=>rfl
 | .sl _ _ _ _,_=>rfl
 | .a _,h=>by simp [V.one]at h
 | .t _,h=>by simp [V.one]at h
 | .f _ _ _,_=>rfl
 | .ep s i sz o,_=>by
  simp only [V.den]
  unfold epv
  split<;>rfl
 | .ifc _ _,_=>rfl
 | .pt _ _ _ _,h=>by simp [V.one]at h
 | .row _,h=>by simp [V.one]at h
 | .cat _,h=>by simp [V.one]at h
 | .y _,_=>rfl
 | .mapV _,_=>rfl
theorem cells_den{ρ:List Value}{α:Nat→AV}{v:V}(h:v.isA=true∨(v.den ρ α).oneCell'=true):(v.den ρ α).cells=(denL ρ α v.cells).toArray:=by
 cases v<;>simp [V.isA,V.den,V.cells,denL,Value.oneCell']at * <;> try rfl
 ·rename_i w;cases w<;>simp [Value.oneCell']at h<;>rfl
 ·rename_i i p
  generalize List.foldl comp (ρ[i]?.getD undef) p=w at *
  cases w<;>simp [Value.oneCell']at h<;>rfl
 ·unfold epv;split<;>rfl
 ·rename_i n
  generalize (α n).h=w at *
  cases w<;>simp [Value.oneCell']at h<;>rfl
 rename_i s i up sz
 generalize ptv (s.den ρ α) (i.den ρ α) up sz=w at *
 cases w<;>simp [Value.oneCell']at h<;>rfl
theorem ones_ok{ρ:List Value}{s:S}(hg:Good ρ s){sh:List Sh}(hsh:sh<+:s.sh)(α:Nat→AV){cs:List V}(h:vones sh cs=true):(denL ρ α cs).toArray.all (·.oneCell')=true:=by
 rw [Array.all_eq_true_iff_forall_mem]
 intro u hu
 rw [denL_map]at hu
 simp only [List.mem_toArray,List.mem_map]at hu
 obtain⟨v,hv,rfl⟩:=hu
 exact one_ok hg hsh α (List.all_eq_true.1 h v hv)
theorem map_k(ρ:List Value)(α:Nat→AV)(l:List Value):denL ρ α (l.map .k)=l:=by
 rw [denL_map,List.map_map];exact(List.map_congr_left fun x _=>by simp [V.den]).trans (List.map_id l)
theorem splice_den(ρ:List Value)(α:Nat→AV)(c cs:List V)(o:Nat):(denL ρ α (spliceV c o cs)).toArray=splice (denL ρ α c).toArray o (denL ρ α cs).toArray:=by
 simp [spliceV,splice,denL_map,List.map_drop,List.map_take]
theorem setL_splice{c:List Value}{o:Nat}{v:Value}(h:o<c.length):(setL c o v).toArray=splice c.toArray o #[v]:=by
 rw [setL_eq]
 unfold splice
 simp [List.set_eq_take_append_cons_drop,h]
theorem wp_fieldAddr'{P:Program}{x:Operand}{t:TypeId}{f d:Nat}{ad:Addr}(ho:o.op=.fieldAddr t x f)(hx:a.eval x=.pointer (some ad))(hd:fieldOff P t f=some d)(h:K (a.put o.dst (.pointer (some (ad.add d)))) W):o.wp P a W K Q:=by
 unfold fieldOff at hd
 cases hu:P.underlying t with
 | none=>simp [hu]at hd
 | some ds =>
  rw [hu]at hd
  cases ds<;>simp at hd
  rename_i fs
  cases hf:fs[f]? with
  | none=>simp [hf]at hd
  | some fd =>
   simp only [hf]at hd
   cases hz:szOf P fd.type with
   | none=>simp [hz]at hd
   | some n =>
    rw [hz]at hd
    cases n with
    | zero=>simp at hd
    | succ n =>
     obtain rfl:fd.offset=d:=by simpa using hd
     unfold Oper.wp execOp
     simp only [ho,hx,Instr.fieldAt,Instr.sureAddr,Sem.run_bind,run_underlying hu,Result.andThen_ok,hf,Sem.run_pure,fieldPlace,run_szOf hz]
     simp only [Nat.add_one_ne_zero,if_false,Sem.run_pure,Result.andThen_ok]
     exact h
theorem wp_val{P:Program}{u:Value}(hr:(execOp a.eval o).run P W=.ok (.value u) W)(h:K (a.put o.dst u) W):o.wp P a W K Q:=by
 unfold Oper.wp
 rw [hr]
 exact h
theorem sc1_ef{q:Opq}{f:Value→Option Value}{x v:V}{new:Option Blk}{wr:Option (Nat×Blk)}(h:sc1 q f x=.ef v new wr):∃ c u,x=.k c∧f c=some u∧u.oneCell'=true∧v=.k u∧new=none∧wr=none:=by
 unfold sc1 at h
 split at h
 ·split at h
  ·rename_i u hu
   split at h
   ·rename_i h1
    injection h with h2 h3 h4
    exact⟨_,_,rfl,hu,h1,h2.symm,h3.symm,h4.symm⟩
   cases h
  cases h
 cases h
theorem sc2_ef{q:Opq}{f:Value→Value→Option Value}{x y v:V}{new:Option Blk}{wr:Option (Nat×Blk)}(h:sc2 q f x y=.ef v new wr):∃ c d u,x=.k c∧y=.k d∧f c d=some u∧u.oneCell'=true∧v=.k u∧new=none∧wr=none:=by
 unfold sc2 at h
 split at h
 ·split at h
  ·rename_i c d u hu
   split at h
   ·rename_i h1
    injection h with h2 h3 h4
    exact⟨_,_,_,rfl,rfl,hu,h1,h2.symm,h3.symm,h4.symm⟩
   cases h
  cases h
 cases h
theorem run_snil{P:Program}{neq:Bool}{t t' e:TypeId}{x y:Operand}{A:Option Addr}{n c:Nat}(hop:o.op=.binOp (if neq then .neq else .eql) t x y t')(hx:a.eval x=.slice A n c)(hy:a.eval y=.slice none 0 0)(ht:P.underlying t=some (.slice e)):(execOp a.eval o).run P W=.ok (.value (.bool (neq ^^ A.isNone))) W:=by
 have h0:∀ d:Nat,(Op.equalIn (d+1) t (.slice A n c) (.slice none 0 0)).run P W=.ok A.isNone W:=fun d=>by
  cases A<;>simp [Op.equalIn,run_underlying ht]
 have h1:=h0 9999
 cases neq<;>simp [execOp,hop,hx,hy,eqGuard,binOp,Op.equal,Op.maxDepth,h1]
theorem run_binb{P:Program}{op:BinOp}{t t':TypeId}{x y:Operand}{c d u:Value}(hop:o.op=.binOp op t x y t')(hx:a.eval x=c)(hy:a.eval y=d)(ht:isBoolT P t=true)(hu:boolV op c d=some u):(execOp a.eval o).run P W=.ok (.value u) W:=by
 unfold boolV at hu
 split at hu
 ·rename_i p q
  have h1:=run_equalIn_bool (P:=P) W 9999 t p q (isBoolT_eq ht)
  split at hu
  ·injection hu with hu
   subst hu
   simp [execOp,hop,hx,hy,eqGuard,binOp,Op.equal,Op.maxDepth,h1]
  ·injection hu with hu
   subst hu
   simp [execOp,hop,hx,hy,eqGuard,binOp,Op.equal,Op.maxDepth,h1]
  cases hu
 cases hu
theorem run_bin{P:Program}{op:BinOp}{t t':TypeId}{x y:Operand}{c d u:Value}(hop:o.op=.binOp op t x y t')(hx:a.eval x=c)(hy:a.eval y=d)(hu:binV op c d=some u):(execOp a.eval o).run P W=.ok (.value u) W:=by
 unfold binV at hu
 split at hu
 ·rename_i k i k' j
  split at hu
  ·split at hu
   ·cases hu
   rename_i hj
   injection hu with hu
   subst hu
   simp [execOp,hop,hx,hy,eqGuard,binOp,Op.shift,hj]
  ·split at hu
   ·cases hu
   rename_i hj
   injection hu with hu
   subst hu
   simp [execOp,hop,hx,hy,eqGuard,binOp,Op.shift,hj]
  split at hu
  ·rename_i hk
   subst hk
   split at hu
   ·split at hu
    ·cases hu
    rename_i hj
    injection hu with hu
    subst hu
    simp [execOp,hop,hx,hy,eqGuard,binOp,Op.intDiv,hj]
   ·split at hu
    ·cases hu
    rename_i hj
    injection hu with hu
    subst hu
    simp [execOp,hop,hx,hy,eqGuard,binOp,Op.intDiv,hj]
   ·injection hu with hu
    subst hu
    simp [execOp,hop,hx,hy,eqGuard,binOp,Op.intBits]
   ·injection hu with hu
    subst hu
    simp [execOp,hop,hx,hy,eqGuard,binOp,Op.intBits]
   ·injection hu with hu
    subst hu
    simp [execOp,hop,hx,hy,eqGuard,binOp,Op.intBits]
   cases op<;>simp only [binI,Option.some.injEq,reduceCtorEq]at hu<;>subst hu<;>simp [execOp,hop,hx,hy,eqGuard,binOp,Op.intArith,Op.intCmp]
  cases hu
 ·rename_i p q
  split at hu
  ·injection hu with hu
   subst hu
   simp [execOp,hop,hx,hy,eqGuard,binOp,Op.stringOp,beq_bytes (p:=p) (q:=q) (B:=decide (p=q)) (by simp)]
  ·injection hu with hu
   subst hu
   simp [execOp,hop,hx,hy,eqGuard,binOp,Op.stringOp,beq_bytes (p:=p) (q:=q) (B:=decide (p=q)) (by simp)]
  cases hu
 cases hu
theorem run_not{P:Program}{t:TypeId}{x:Operand}{c u:Value}(hop:o.op=.unOp .not t x)(hx:a.eval x=c)(hu:notV c=some u):(execOp a.eval o).run P W=.ok (.value u) W:=by
 unfold notV at hu
 split at hu
 ·injection hu with hu
  subst hu
  simp [execOp,hop,hx,Op.unary]
 cases hu
theorem run_neg{P:Program}{t:TypeId}{x:Operand}{c u:Value}(hop:o.op=.unOp .neg t x)(hx:a.eval x=c)(hu:negV c=some u):(execOp a.eval o).run P W=.ok (.value u) W:=by
 unfold negV at hu
 split at hu
 ·injection hu with hu
  subst hu
  simp [execOp,hop,hx,Op.unary,Op.intArith]
 cases hu
theorem run_cpl{P:Program}{t:TypeId}{x:Operand}{c u:Value}(hop:o.op=.unOp .xor t x)(hx:a.eval x=c)(hu:cplV c=some u):(execOp a.eval o).run P W=.ok (.value u) W:=by
 unfold cplV at hu
 split at hu
 ·injection hu with hu
  subst hu
  simp [execOp,hop,hx,Op.unary,Op.intBits]
 cases hu
theorem run_conv{P:Program}{src dst:TypeId}{x:Operand}{c u:Value}{ks k:IntKind}(hop:o.op=.convert src dst x)(hx:a.eval x=c)(hs:P.underlying src=some (.int ks))(hd:P.underlying dst=some (.int k))(hu:convV k c=some u):(execOp a.eval o).run P W=.ok (.value u) W:=by
 unfold convV at hu
 split at hu
 ·injection hu with hu
  subst hu
  simp [execOp,hop,hx,convert,run_underlying hs,run_underlying hd,Conv.intToInt]
 cases hu
theorem fillV_den{ρ:List Value}{s:S}(hg:Good ρ s)(α:Nat→AV){place:Nat→Option (Nat×Nat)}:∀ {l:List (Nat×V)}{c cs:List V},(∀ e∈l,e.2.isA=true∨(e.2.den ρ α).oneCell'=true)→fillV place c l=some cs →
 Instr.fill place (denL ρ α c).toArray ((l.map (·.1)).zip (denL ρ α (l.map (·.2))))=some (denL ρ α cs).toArray
 | [],c,cs,_,h=>by
  obtain rfl:c=cs:=by simpa [fillV]using h
  simp [denL,Instr.fill]
 | (i,v)::l,c,cs,h1,h=>by
  unfold fillV at h
  split at h
  ·rename_i off sz hp
   split at h
   ·rename_i hc
    obtain⟨rfl,h2⟩:=hc
    have hv:=cells_den (ρ:=ρ) (α:=α) (h1 (i,v) (List.mem_cons_self ..))
    have hsz:(v.den ρ α).cells.size=v.cells.length:=by rw [hv];simp [denL_len]
    simp only [List.map_cons,denL,List.zip_cons_cons]
    rw [fill_splice (off:=off) (by rw [hsz];exact hp) (by rw [hsz];simpa [denL_len]using h2),hv,← splice_den]
    exact fillV_den hg α (fun e he=>h1 e (List.mem_cons_of_mem _ he)) h
   cases h
  cases h
theorem place_built{P:Program}{t:TypeId}{pl:Nat→Option (Nat×Nat)}{z:Array Value}{parts:List (Nat×Value)}(hpl:placeOf P t=some pl)(hz:zeroOf P t=some (.agg z)):P.built t parts=Instr.fill pl z parts:=by
 unfold placeOf at hpl
 split at hpl
 ·simp only [Option.map_eq_some_iff]at hpl
  obtain⟨l,hl,rfl⟩:=hpl
  rw [built_struct hl hz]
  simp [Value.cells]
 ·rename_i n e hu
  simp only [Option.map_eq_some_iff]at hpl
  obtain⟨sz,hs,rfl⟩:=hpl
  unfold zeroOf at hz
  unfold szOf at hs
  unfold Program.built
  cases hq:P.info? t with
  | none=>simp [hq]at hz
  | some i =>
   cases hqe:P.info? e with
   | none=>simp [hqe]at hs
   | some ie =>
    have hz':i.zero=some (.agg z):=by simpa [hq]using hz
    have hs':ie.size=sz:=by simpa [hqe]using hs
    simp [hu,hz',hqe,hs',Value.cells]
 cases hpl
theorem flat_den{ρ:List Value}{α:Nat→AV}:∀ {vs:List V},(∀ v∈vs,v.isA=true∨(v.den ρ α).oneCell'=true)→flatL (denL ρ α vs)=denL ρ α (vs.flatMap V.cells)
 | [],_=>rfl
 | v::vs,h=>by
  simp only [denL,flatL,List.flatMap_cons,denL_app]
  rw [cells_den (h v (List.mem_cons_self ..)),flat_den fun u hu=>h u (List.mem_cons_of_mem _ hu)]
theorem lenT_u{P:Program}{ats:Array TypeId}{str:Bool}(h:(ats[0]?).bind (lenT P)=some str):∃ t,ats[0]?=some t∧((str=true∧P.underlying t=some .string)∨(str=false∧∃ e,P.underlying t=some (.slice e))):=by
 cases hq:ats[0]? with
 | none=>simp [hq]at h
 | some t =>
  rw [hq]at h
  refine⟨t,rfl,?_⟩
  simp only [Option.bind_some,lenT]at h
  split at h
  ·rename_i hu
   exact .inl ⟨by simpa using h.symm,hu⟩
  ·rename_i e hu
   exact .inr ⟨by simpa using h.symm,e,hu⟩
  cases h
theorem run_len{P:Program}{c:Call}{str:Bool}{x u:Value}(hop:o.op=.call c)(hc:c.callee=.builtin .len)(hs:(c.argTypes[0]?).bind (lenT P)=some str)(ha:c.args.map a.eval=#[x])(hu:kLen str x=some u):(execOp a.eval o).run P W=.ok (.value u) W:=by
 obtain⟨t,ht,hh⟩:=lenT_u hs
 rcases hh with ⟨rfl,hp⟩|⟨rfl,e,hp⟩
 ·cases x<;>simp [kLen]at hu
  subst hu
  simp [execOp,hop,resolve,hc,invoke,builtin,ha,Builtin.len_,ht,run_underlying hp,goInt]
 cases x<;>simp [kLen]at hu
 subst hu
 simp [execOp,hop,resolve,hc,invoke,builtin,ha,Builtin.len_,ht,run_underlying hp,goInt]
theorem run_cap{P:Program}{c:Call}{x u:Value}(hop:o.op=.call c)(hc:c.callee=.builtin .cap)(hs:(c.argTypes[0]?).bind (lenT P)=some false)(ha:c.args.map a.eval=#[x])(hu:kCap x=some u):(execOp a.eval o).run P W=.ok (.value u) W:=by
 obtain⟨t,ht,hh⟩:=lenT_u hs
 rcases hh with ⟨hf,hp⟩|⟨_,e,hp⟩
 ·cases hf
 cases x<;>simp [kCap]at hu
 subst hu
 simp [execOp,hop,resolve,hc,invoke,builtin,ha,Builtin.cap_,ht,run_underlying hp,goInt]
theorem run_min{P:Program}{c:Call}{x y u:Value}(hop:o.op=.call c)(hc:c.callee=.builtin .min)(ha:c.args.map a.eval=#[x,y])(hu:minV x y=some u):(execOp a.eval o).run P W=.ok (.value u) W:=by
 unfold minV at hu
 split at hu
 ·split at hu
  ·rename_i hk
   subst hk
   injection hu with hu
   subst hu
   simp [execOp,hop,resolve,hc,invoke,builtin,ha,Builtin.min_,Builtin.min2,minI]
  cases hu
 cases hu
theorem run_max{P:Program}{c:Call}{x y u:Value}(hop:o.op=.call c)(hc:c.callee=.builtin .max)(ha:c.args.map a.eval=#[x,y])(hu:maxV x y=some u):(execOp a.eval o).run P W=.ok (.value u) W:=by
 unfold maxV at hu
 split at hu
 ·split at hu
  ·rename_i hk
   subst hk
   injection hu with hu
   subst hu
   simp [execOp,hop,resolve,hc,invoke,builtin,ha,Builtin.max_,Builtin.max2,maxI]
  cases hu
 cases hu
theorem run_bnd{P:Program}{y:Nat}{v:Value}{n:Nat}{code:BoundsCode}(h:bndV y v=some n):(Instr.sliceBound v y code).run P W=.ok n W:=by
 unfold bndV at h
 split at h
 ·split at h
  ·rename_i hc
   injection h with h
   subst h
   simp [Instr.sliceBound,asIntOf,hc]
  cases h
 cases h
theorem run_bounds{P:Program}{b:Bool}{len cap:Nat}{lo hi mx:Option Value}{r:Nat×Nat×Nat}(h:boundsV len cap lo hi mx=some r):(Instr.sliceBounds b len cap lo hi mx).run P W=.ok r W:=by
 unfold boundsV at h
 simp only [Option.bind_eq_some_iff]at h
 obtain⟨m,hm,h1,hh,l,hl,e⟩:=h
 injection e with e
 subst e
 unfold Instr.sliceBounds
 cases mx<;>cases hi<;>cases lo<;>simp only [Option.some.injEq,reduceCtorEq]at hm hh hl<;>(try subst hm)<;>(try subst hh)<;>(try subst hl)<;>simp [Sem.run_bind,run_bnd, *]
def optsO(a:Act)(lo hi mx:Option Operand):Option Value×Option Value×Option Value:=(lo.map a.eval,hi.map a.eval,mx.map a.eval)
theorem opts_eval{lo hi mx:Option Operand}{vs:List Value}{r:Option Value×Option Value×Option Value}(hv:(lo.toArray++hi.toArray++mx.toArray).toList.map a.eval=vs)(h:optsV lo.isSome hi.isSome mx.isSome vs=some r):optsO a lo hi mx=r:=by
 subst hv
 unfold optsO
 cases lo<;>cases hi<;>cases mx<;>simp [optsV]at h ⊢<;>exact h
theorem kList_den{ρ:List Value}{α:Nat→AV}:∀ {bs:List V}{vs:List Value},kList bs=some vs→denL ρ α bs=vs
 | [],vs,h=>by simp [kList]at h;subst h;rfl
 | v::bs,vs,h=>by
  cases v<;>simp [kList]at h
  obtain⟨l,hl,rfl⟩:=h
  simp [denL,V.den,kList_den hl]
theorem slice_ops{ρ:List Value}{α:Nat→AV}{t:TypeId}{xo:Operand}{lo hi mx:Option Operand}{x:V}{bs:List V}{vs:List Value}{r:Option Value×Option Value×Option Value}(he:(Op.slice t xo lo hi mx).operands.toList.map a.eval=denL ρ α (x::bs))(h1:kList bs=some vs)(h2:optsV lo.isSome hi.isSome mx.isSome vs=some r):a.eval xo=x.den ρ α∧optsO a lo hi mx=r:=by
 have he':a.eval xo::(lo.toArray++hi.toArray++mx.toArray).toList.map a.eval=x.den ρ α::denL ρ α bs:=by
  rw [← denL]
  rw [← he]
  simp [Op.operands]
 injection he' with h3 h4
 exact⟨h3,opts_eval (h4.trans (kList_den h1)) h2⟩
theorem run_slArr{P:Program}{t e:TypeId}{xo:Operand}{lo hi mx:Option Operand}{ad:Addr}{len sz l1 h1 m1:Nat}{r:Option Value×Option Value×Option Value}(hop:o.op=.slice t xo lo hi mx)(hx:a.eval xo=.pointer (some ad))(hf:arrOf P t=some (len,e))(hsz:szOf P e=some sz)(ho:optsO a lo hi mx=r)(hb:boundsV len len r.1 r.2.1 r.2.2=some (l1,h1,m1)) :
 (execOp a.eval o).run P W=.ok (.value (.slice (some (if m1=l1 then ad else ad.add (l1*sz))) (h1-l1) (m1-l1))) W:=by
 subst ho
 have:=run_bounds (P:=P) (W:=W) (b:=false) hb
 simp only [optsO]at this
 simp [execOp,hop,hx,Instr.sliceAt,run_underlying (arrOf_eq hf),Instr.sureAddr,this,run_szOf hsz]
theorem run_slSl{P:Program}{t e:TypeId}{xo:Operand}{lo hi mx:Option Operand}{A:Option Addr}{len cap sz l1 h1 m1:Nat}{r:Option Value×Option Value×Option Value}(hop:o.op=.slice t xo lo hi mx)(hx:a.eval xo=.slice A len cap)(hf:P.underlying t=some (.slice e))(hsz:szOf P e=some sz)(ho:optsO a lo hi mx=r)(hb:boundsV len cap r.1 r.2.1 r.2.2=some (l1,h1,m1)) :
 (execOp a.eval o).run P W=.ok (.value (.slice (if m1=l1 then A else A.map (·.add (l1*sz))) (h1-l1) (m1-l1))) W:=by
 subst ho
 have:=run_bounds (P:=P) (W:=W) (b:=true) hb
 simp only [optsO]at this
 simp [execOp,hop,hx,Instr.sliceAt,Instr.slice,run_underlying hf,this,run_szOf hsz]
theorem run_slStr{P:Program}{t:TypeId}{xo:Operand}{lo hi mx:Option Operand}{s:ByteArray}{l1 h1 m1:Nat}{r:Option Value×Option Value×Option Value}(hop:o.op=.slice t xo lo hi mx)(hx:a.eval xo=.string s)(hf:P.underlying t=some .string)(ho:optsO a lo hi mx=r)(hm:r.2.2.isSome=false)(hb:boundsV s.size s.size r.1 r.2.1 none=some (l1,h1,m1)) :
 (execOp a.eval o).run P W=.ok (.value (.string (s.extract l1 h1))) W:=by
 subst ho
 have:=run_bounds (P:=P) (W:=W) (b:=false) hb
 simp only [optsO]at this hm
 have hm':mx.map a.eval=none:=by cases mx<;>simp at hm ⊢
 have hm2:mx=none:=by simpa using hm'
 subst hm2
 simp [execOp,hop,hx,Instr.sliceAt,Instr.slice,run_underlying hf,this]
theorem Rd.in{W:World}{sz n:Nat}{A:Option Addr}{xs:List Value}(h:Rd W sz A n xs){i:Nat}(hi:i<xs.length):∃ ad,A=some ad∧∀ j u,xs[j]?=some u→W.cell? (ad.add j)=some u:=by
 have hn:0<n:=by
  rcases Nat.eq_zero_or_pos n with rfl|hn
  ·rw [h.1]at hi;omega
  exact hn
 obtain⟨ad,e,_,hc⟩:=h.2 hn
 exact⟨ad,e,hc⟩
theorem row_info(hI:InvA w0 ps T ρ s a W α){n sz:Nat}{c:List V}{e:TypeId}(hn:s.hp[n]?=some (some ⟨c,e,.row sz⟩)):0<sz∧(((denL ρ α c).flatMap cellsV=[]∧(α n).h=.slice none 0 0)∨∃ len cap,(α n).h=.slice (some ⟨(α n).b,0,none⟩) len cap∧((denL ρ α c).flatMap cellsV).length=len*sz∧((denL ρ α c).flatMap cellsV++(α n).tl).length=cap*sz∧len≤cap∧cap≤maxLen ∧
 (⟨(α n).b,((denL ρ α c).flatMap cellsV++(α n).tl).toArray,e⟩:Ch)∈chs ρ α 0 s.hp):=by
 obtain⟨_,h0,h1⟩:=hI.rows n _ hn
 refine⟨h0,h1.imp id fun⟨len,cap,h2,h3,h4,h5,h6⟩=>⟨len,cap,h2,h3,h4,h5,h6,chs_mem (k:=0) hn ?_⟩⟩
 simp only [Blk.ch,Nat.zero_add,h2]
 rfl
theorem row_rd(hI:InvA w0 ps T ρ s a W α){n sz:Nat}{c:List V}{e:TypeId}(hn:s.hp[n]?=some (some ⟨c,e,.row sz⟩)):Arg.rd W ⟨(α n).h,sz,(denL ρ α c).flatMap cellsV⟩:=by
 obtain⟨h0,h|⟨len,cap,h2,h3,h4,h5,h6,hm⟩⟩:=row_info hI hn
 ·rw [h.1,h.2];exact⟨Rd.none_,Nat.le_refl _⟩
 rw [h2]
 refine⟨?_,h5⟩
 show Rd W sz (some ⟨(α n).b,0,none⟩) len _
 refine Rd.of_blk (hI.st.at_ hm) h3 fun j u hu=>?_
 rw [Nat.zero_add]
 have:((denL ρ α c).flatMap cellsV++(α n).tl)[j]?=some u:=by rw [List.getElem?_append_left (List.getElem?_eq_some_iff.1 hu).1];exact hu
 simpa using this
theorem ext_fact(hI:InvA w0 ps T ρ s a W α){n sz:Nat}{c:List V}{e:TypeId}(hn:s.hp[n]?=some (some ⟨c,e,.ext sz⟩)):∀ W2,Same (muts (chs ρ α 0 s.hp) (osA a s T)) W W2→exFact w0 ⟨(α n).h,sz,(denL ρ α c).flatMap cellsV⟩ W2 :=
 hI.st.pers _ (List.mem_append.2 (.inl (exs_mem.2 ⟨n,_,hn,by rw [Nat.zero_add];rfl⟩)))
theorem rd_any(hI:InvA w0 ps T ρ s a W α){n sz:Nat}{c:List V}{e:TypeId}{k:BK}(hn:s.hp[n]?=some (some ⟨c,e,k⟩))(hk:k=.row sz∨k=.ext sz):Arg.rd W ⟨(α n).h,sz,(denL ρ α c).flatMap cellsV⟩:=by
 rcases hk with rfl|rfl
 ·exact row_rd hI hn
 exact(ext_fact hI hn W (.refl _ _)).1
theorem rd_full(hI:InvA w0 ps T ρ s a W α){n sz:Nat}{c:List V}{e:TypeId}{kk:BK}(hn:s.hp[n]?=some (some ⟨c,e,kk⟩))(hk:kk=.row sz∨kk=.ext sz){i:Value}(hb:Rbnd (cellsV ((V.cat c).den ρ α)).length sz i):∃ ad len cap k j,(α n).h=.slice (some ad) len cap∧i=.int k j∧0≤j∧j<(len:Int)∧((denL ρ α c).flatMap cellsV).length=len*sz∧Rd W sz (some ad) len ((denL ρ α c).flatMap cellsV):=by
 have hrd:=rd_any hI hn hk
 obtain⟨_,hl⟩:=hI.rows n _ hn
 have hl:=hl.len
 have hl:0<sz∧∃ A len cap,(α n).h=.slice A len cap∧((denL ρ α c).flatMap cellsV).length=len*sz∧(0<len→A.isSome=true):=by
  rcases hk with rfl|rfl<;>exact hl
 obtain⟨h0,A,len,cap,h1,h2,h3⟩:=hl
 unfold Rbnd at hb
 split at hb
 ·rename_i k j
  simp only [V.den,cellsV]at hb
  rw [h2,Nat.mul_div_cancel _ h0]at hb
  obtain⟨ad,rfl⟩:=Option.isSome_iff_exists.1 (h3 (by omega))
  rw [h1]at hrd
  exact⟨ad,len,cap,k,j,h1,rfl,hb.1,hb.2,h2,hrd.1⟩
 exact hb.elim
theorem Rd.cells_at{W:World}{sz n':Nat}{ad:Addr}{xs:List Value}(h:Rd W sz (some ad) n' xs){i n:Nat}(hi:i+n≤xs.length):Cells W (ad.add i) ((xs.drop i).take n).toArray:=by
 intro j u hu
 have hu':((xs.drop i).take n)[j]?=some u:=by simpa using hu
 rw [List.getElem?_take]at hu'
 split at hu'
 ·rw [List.getElem?_drop]at hu'
  obtain⟨ad',e,hc⟩:=Rd.in h (List.getElem?_eq_some_iff.1 hu').1
  cases e
  rw [add_of_add]
  exact hc _ _ hu'
 cases hu'
theorem rbnd_of{len sz:Nat}{i:Value}(h:Rbnd len sz i):∃ k j,i=.int k j∧0≤j∧j<((len / sz:Nat):Int):=by
 unfold Rbnd at h
 split at h
 ·exact⟨_,_,rfl,h.1,h.2⟩
 exact h.elim
theorem row_full(hI:InvA w0 ps T ρ s a W α){n sz:Nat}{c:List V}{e:TypeId}(hn:s.hp[n]?=some (some ⟨c,e,.row sz⟩)){i:Value}(hb:Rbnd (cellsV ((V.cat c).den ρ α)).length sz i):∃ len cap k j,(α n).h=.slice (some ⟨(α n).b,0,none⟩) len cap∧i=.int k j∧0≤j∧j<(len:Int)∧((denL ρ α c).flatMap cellsV).length=len*sz∧((denL ρ α c).flatMap cellsV++(α n).tl).length=cap*sz∧len≤cap∧cap≤maxLen ∧
 (⟨(α n).b,((denL ρ α c).flatMap cellsV++(α n).tl).toArray,e⟩:Ch)∈chs ρ α 0 s.hp:=by
 obtain⟨k,j,hi,h0,h1⟩:=rbnd_of hb
 simp only [V.den,cellsV]at h1
 obtain⟨hz,⟨h2,_⟩|⟨len,cap,h2,h3,h4,h5,h6,h7⟩⟩:=row_info hI hn
 ·rw [h2]at h1;simp at h1;omega
 rw [h3,Nat.mul_div_cancel _ hz]at h1
 exact⟨len,cap,k,j,h2,hi,h0,h1,h3,h4,h5,h6,h7⟩
theorem splice_row{xs tl cs:List Value}{o:Nat}(h:o+cs.length≤xs.length):splice (xs++tl).toArray o cs.toArray=(xs.take o++cs++xs.drop (o+cs.length)++tl).toArray:=by
 unfold splice
 rw [List.take_append_of_le_length (by omega),List.drop_append_of_le_length (by simpa using h)]
 simp
theorem flatA_den{ρ:List Value}{α:Nat→AV}:∀ {c ds:List V},flatA c=some ds→(denL ρ α c).flatMap cellsV=denL ρ α ds
 | [],ds,h=>by
  obtain rfl:[]=ds:=by simpa [flatA]using h
  rfl
 | v::l,ds,h=>by
  unfold flatA at h
  split at h
  ·rename_i h0;cases h0
  ·rename_i cs l' h0
   cases h0
   obtain⟨d,h1,rfl⟩:=Option.map_eq_some_iff.1 h
   simp only [denL,V.den,List.flatMap_cons,cellsV,denL_app,flatA_den h1]
  cases h
theorem stru_of{c ds:List V}{sz o k p:Nat}{i:V}(h:stru c sz o i k=some (ds,p)):∃ kk j,i=.k (.int kk j)∧flatA c=some ds∧0≤j∧o+k≤sz∧0<k∧(j.toNat+1)*sz≤ds.length∧p=j.toNat*sz+o:=by
 unfold stru at h
 split at h
 ·rename_i kk j
  obtain⟨d,h1,h2⟩:=Option.bind_eq_some_iff.1 h
  split at h2
  ·rename_i hc
   simp only [Option.some.injEq,Prod.mk.injEq]at h2
   obtain⟨rfl,rfl⟩:=h2
   exact⟨kk,j,rfl,h1,hc.1,hc.2.1,hc.2.2.1,hc.2.2.2,rfl⟩
  cases h2
 cases h
theorem stru_bnd{c ds:List V}{sz o k p:Nat}{i:V}(h:stru c sz o i k=some (ds,p))(α:Nat→AV):Rbnd (cellsV ((V.cat c).den ρ α)).length sz (i.den ρ α):=by
 obtain⟨kk,j,rfl,h1,h2,h3,h4,h5,rfl⟩:=stru_of h
 have:0<sz:=by omega
 simp only [V.den,cellsV,flatA_den h1,denL_len]
 refine⟨h2,?_⟩
 have h6:j.toNat+1≤ds.length / sz:=(Nat.le_div_iff_mul_le this).2 h5
 omega
theorem planEp_no{bs:List (Nat×Option Blk)}{s i:V}{sz o:Nat}{v:V}{new:Option Blk}{wr:Option (Nat×Blk)}(h:planEp bs s i sz o=.ef v new wr):False:=by
 unfold planEp at h
 split at h
 ·split at h
  ·split at h<;>cases h
  cases h
 cases h
theorem planLd_ef{bs:List (Nat×Option Blk)}{b:Bool}{n:Nat}{s i:V}{sz o:Nat}{v:V}{new:Option Blk}{wr:Option (Nat×Blk)}(h:planLd bs b n s i sz o=.ef v new wr):new=none∧wr=none∧∃ m c e ds p,s=.row m∧rdOfN bs m=some (c,e,sz)∧stru c sz o i n=some (ds,p)∧((b=true∧v=.a ((ds.drop p).take n))∨(b=false∧ds[p]?=some v)):=by
 unfold planLd at h
 split at h
 ·split at h
  ·rename_i c e sz' hrow
   split at h
   ·rename_i hs
    subst hs
    split at h
    ·rename_i ds p hst
     unfold partV at h
     split at h
     ·rename_i hb
      cases h
      exact⟨rfl,rfl,_,c,e,ds,p,rfl,hrow,hst,.inl ⟨hb,rfl⟩⟩
     rename_i hb
     split at h
     ·rename_i u hu
      cases h
      exact⟨rfl,rfl,_,c,e,ds,p,rfl,hrow,hst,.inr ⟨by simpa using hb,hu⟩⟩
     cases h
    split at h<;>cases h
   cases h
  cases h
 split at h<;>cases h
theorem planAp_no{C:Cx}{bs:List (Nat×Option Blk)}{nm m:Nat}{t:TypeId}{x y v:V}{new:Option Blk}{wr:Option (Nat×Blk)}(h:planAp C bs nm m t x y=.ef v new wr):False:=by
 unfold planAp at h
 split at h
 ·split at h
  ·split at h
   ·split at h<;>cases h
   cases h
  cases h
 cases h
theorem planAx_no{bs:List (Nat×Option Blk)}{m:Nat}{fr:Bool}{t:TypeId}{x y v:V}{new:Option Blk}{wr:Option (Nat×Blk)}(h:planAx C bs nm m fr t x y=.ef v new wr):False:=by
 unfold planAx at h
 split at h
 ·split at h
  ·split at h
   ·split at h<;>cases h
   cases h
  cases h
 cases h
theorem planCl_no{bs:List (Nat×Option Blk)}{m:Nat}{g:FuncId}{ts:List TypeId}{args:List V}{v:V}{new:Option Blk}{wr:Option (Nat×Blk)}(h:planCl C bs nm m g ts args=.ef v new wr):False:=by
 unfold planCl at h
 split at h
 ·split at h
  ·cases h
  ·split at h<;>cases h
  cases h
 cases h
theorem planCw_no{bs:List (Nat×Option Blk)}{m:Nat}{g:FuncId}{ts:List TypeId}{args cap:List V}{v:V}{new:Option Blk}{wr:Option (Nat×Blk)}(h:planCw C bs nm m g ts args cap=.ef v new wr):False:=by
 unfold planCw at h
 split at h
 ·split at h
  ·split at h<;>cases h
  cases h
 cases h
theorem flat_cells_len{sz:Nat}:∀ {l:List V},(∀ v∈l,v.cells.length=sz)→(l.flatMap V.cells).length=l.length*sz
 | [],_=>by simp
 | v::l,h=>by
  rw [List.flatMap_cons,List.length_append,flat_cells_len fun u hu=>h u (List.mem_cons_of_mem _ hu),h v (List.mem_cons_self ..),List.length_cons,Nat.succ_mul]
  omega
theorem wp_build0{P:Program}{hs:List Ch}{os:List Ow}{t e:TypeId}{sz:Nat}(ho:o.op=.buildSlice t 0 #[])(hu:P.underlying t=some (.slice e))(hsz:szOf P e=some sz)(hS:St w0 hs os ps W)
 (h:∀ k W',St w0 (⟨k,#[],e⟩::hs) os ps W'→K (a.put o.dst (.slice (some ⟨k,0,none⟩) 0 0)) W'):o.wp P a W K Q:=by
 unfold Oper.wp execOp
 simp [ho,Instr.buildSlice,run_underlying hu,run_szOf hsz,Instr.fill,newRow]
 have e0:Array.map (fun _=>(default:Value)) (Array.range 0)=#[]:=by simp
 rw [e0]
 exact h _ _ (hS.new #[] e)
theorem oneB_ok(hI:InvA w0 ps T ρ s a W α){sh:List Sh}(hsh:sh<+:s.sh){vv:List V}{v:V}(h:v.oneB (blks s.hp vv) sh=true):(v.den ρ α).oneCell'=true:=by
 unfold V.oneB at h
 rw [Bool.or_eq_true]at h
 rcases h with h|h
 ·exact one_ok hI.good hsh α h
 split at h
 ·rename_i m
  obtain⟨⟨c,e,sz⟩,hr⟩:=Option.isSome_iff_exists.1 h
  obtain⟨k,hn,hk⟩:=rdOfN_eq hr
  have hl:=(hI.rows m _ hn).2.len
  have:∃ A len cap,(α m).h=.slice A len cap:=by
   rcases hk with rfl|rfl
   ·obtain⟨_,A,len,cap,g,_⟩:=hl;exact⟨A,len,cap,g⟩
   obtain⟨_,A,len,cap,g,_⟩:=hl;exact⟨A,len,cap,g⟩
  obtain⟨A,len,cap,g⟩:=this
  simp only [V.den,g]
  rfl
 cases h
theorem onesB_ok(hI:InvA w0 ps T ρ s a W α){sh:List Sh}(hsh:sh<+:s.sh){vv cs:List V}(h:vonesB (blks s.hp vv) sh cs=true):(denL ρ α cs).toArray.all (·.oneCell')=true:=by
 rw [Array.all_eq_true_iff_forall_mem]
 intro u hu
 rw [denL_map]at hu
 simp only [List.mem_toArray,List.mem_map]at hu
 obtain⟨v,hv,rfl⟩:=hu
 exact oneB_ok hI hsh (List.all_eq_true.1 h v hv)
theorem rset_gen{sh0:List Sh}{t:TypeId}{xo yo:Operand}{n sz off k:Nat}{i vv:V}{c c':List V}{e:TypeId}(hop:o.op=.store t xo yo)(hx:a.eval xo=epv ((α n).h) (i.den ρ α) sz off)(hy:a.eval yo=vv.den ρ α)(hrow:s.hp[n]?=some (some ⟨c,e,.row sz⟩))(hs:szOf C.P t=some k)(hk:vv.cells.length=k)(hk0:0<k)(hone:(denL ρ α vv.cells).toArray.all (·.oneCell')=true)
 (hI:InvA w0 ps T ρ s a W α) (hbd:Rbnd (cellsV ((V.cat c).den ρ α)).length sz (i.den ρ α)) (hlt:off+vv.cells.length≤sz) (hxs0:(denL ρ α c').flatMap cellsV=((denL ρ α c).flatMap cellsV).take (idxOf (i.den ρ α)*sz+off)++denL ρ α vv.cells++((denL ρ α c).flatMap cellsV).drop (idxOf (i.den ρ α)*sz+off+vv.cells.length)) (hw:effWf s nm (.k undef) none (some (n,⟨c',e,.row sz⟩))=true) (hK:∀ a' W',Inv w0 ps T ρ (s.eff nm o.dst (.k undef) none (some (n,⟨c',e,.row sz⟩))) a' W'→K a' W'):o.wp C.P a W K Q:=by
 obtain⟨len,cap,kk,j,g1,g2,g3,g4,g5,g6,g7,g8,g9⟩:=row_full hI hrow hbd
 rw [g2]at hxs0 hx
 rw [g1]at hx
 simp only [epv,add_zero_addr,Nat.zero_add,idxOf]at hx hxs0
 have hj:j.toNat*sz+off+vv.cells.length≤((denL ρ α c).flatMap cellsV).length:=by
  rw [g5]
  have h1:(j.toNat+1)*sz≤len*sz:=Nat.mul_le_mul_right _ (by omega)
  rw [Nat.add_mul]at h1
  omega
 have hxs:(⟨c',e,.row sz⟩:Blk).xs ρ α=((denL ρ α c).flatMap cellsV).take (j.toNat*sz+off)++denL ρ α vv.cells++((denL ρ α c).flatMap cellsV).drop (j.toNat*sz+off+vv.cells.length):=hxs0
 have hxl:((⟨c',e,.row sz⟩:Blk).xs ρ α).length=((denL ρ α c).flatMap cellsV).length:=by
  rw [hxs]
  simp only [List.length_append,List.length_take,List.length_drop,denL_len]
  omega
 have hrowOk:(⟨c',e,.row sz⟩:Blk).rowOk ρ α n:=by
  refine⟨(row_info hI hrow).1,.inr ⟨len,cap,g1,by rw [hxl,g5],?_,g7,g8⟩⟩
  rw [List.length_append,hxl,← List.length_append,g6]
 have hup:Upd (α n).b ((denL ρ α c).flatMap cellsV++(α n).tl).toArray e (splice ((denL ρ α c).flatMap cellsV++(α n).tl).toArray (j.toNat*sz+off) (denL ρ α vv.cells).toArray) (chs ρ α 0 s.hp) (chs ρ α 0 (s.hp.set n (some ⟨c',e,.row sz⟩))):=by
  refine chs_set (k:=0) hrow ?_ ?_
  ·simp only [Blk.ch,Nat.zero_add,g1];rfl
  simp only [Blk.ch,Nat.zero_add,g1]
  rw [hxs,splice_row (by rw [denL_len];exact hj),denL_len]
 cases hA:vv.isA
 ·have hcs:vv.cells=[vv]:=by cases vv<;>first|rfl|simp [V.isA]at hA
  rw [hcs]at hup hk hone hj
  simp at hk
  subst hk
  have h1c:(vv.den ρ α).oneCell'=true:=by simpa [denL]using hone
  refine wp_store_one hop hx hy hI.st hup ?_ hs (by simp at hj ⊢;omega) h1c fun W' hS=>fin_wr hI hrow hrowOk rfl hw hK hS rfl
  rw [setL_splice (by simp at hj ⊢;omega)]
  rfl
 obtain⟨cs,rfl⟩:∃ cs,vv=.a cs:=by cases vv<;>simp [V.isA]at hA;exact⟨_,rfl⟩
 simp only [V.cells]at *
 refine wp_store_sub hop hx hy hI.st hup ?_ ?_ hone fun W' hS=>fin_wr hI hrow hrowOk rfl hw hK hS rfl
 ·rw [hs];simp [denL_len,hk]
 simp [denL_len];simp at hj;omega
theorem ef_okV{v:V}{new:Option Blk}{wr:Option (Nat×Blk)}{vs:List V}{sh:List Sh}(hsh:sh<+:s.sh)(hvs:o.op.operands.toList.mapM s.ev=some vs){vv0:List V}(h:planV0 C sh nm o.op vs (blks s.hp vv0)=.ef v new wr)(hI:InvA w0 ps T ρ s a W α)(hnm:new=none∨freeIn s nm)
 (hw:effWf s nm v new wr=true) (hK:∀ a' W',Inv w0 ps T ρ (s.eff nm o.dst v new wr) a' W'→K a' W'):o.wp C.P a W K Q:=by
 have he:=mapM_den hI.good hI.fm hvs
 have fp:=@fin_pure w0 ps T ρ s a W α K o nm
 generalize hop:o.op=op at *
 unfold planV0 at h
 split at h
 ·-- move
  injection h with h1 h2 h3
  subst h1;subst h2;subst h3
  simp [Op.operands,denL]at he
  exact wp_move hop he (fin_pure hI hw hK)
 ·injection h with h1 h2 h3
  subst h1;subst h2;subst h3
  simp [Op.operands,denL]at he
  exact wp_assign hop he (fin_pure hI hw hK)
 ·-- pick
  simp [Op.operands,denL]at he
  obtain⟨e1,e2,e3⟩:=he
  split at h
  ·injection h with h1 h2 h3
   subst h1;subst h2;subst h3
   exact wp_pick_true hop e1 e2 (fin_pure hI hw hK)
  ·injection h with h1 h2 h3
   subst h1;subst h2;subst h3
   exact wp_pick_false hop e1 e3 (fin_pure hI hw hK)
  ·cases h
  cases h
 ·-- box
  simp [Op.operands,denL]at he
  split at h
  ·injection h with h1 h2 h3
   subst h1;subst h2;subst h3
   exact wp_box_row hop he hI.st fun k W' hS _ _=>fin_new hI (hnm.resolve_left nofun) rfl hw hK hS fun α' hα=>by simp [V.den,hα]
  split at h
  ·rename_i h1c
   injection h with h1 h2 h3
   subst h1;subst h2;subst h3
   exact wp_box_one hop he (oneB_ok hI hsh h1c) hI.st fun k W' hS _ _=>fin_new hI (hnm.resolve_left nofun) rfl hw hK (by simpa [denL]using hS) fun α' hα=>by simp [V.den,hα]
  cases h
 ·-- alloc
  split at h
  ·rename_i cs hz
   injection h with h1 h2 h3
   subst h1;subst h2;subst h3
   exact wp_alloc_row hop hz hI.st fun k W' hS _ _=>fin_new hI (hnm.resolve_left nofun) rfl hw hK (by simpa [map_k]using hS) fun α' hα=>by simp [V.den,hα]
  ·rename_i v' hz
   split at h
   ·rename_i h1c
    injection h with h1 h2 h3
    subst h1;subst h2;subst h3
    exact wp_alloc_one hop hz h1c hI.st fun k W' hS _ _=>fin_new hI (hnm.resolve_left nofun) rfl hw hK (by simpa [denL,V.den]using hS) fun α' hα=>by simp [V.den,hα]
   cases h
  cases h
 ·-- load
  simp [Op.operands,denL,V.den]at he
  split at h
  ·rename_i b sz hb hr hs
   have hm:=hI.blk (blkOf_eq hb).1 (blkOf_eq hb).2
   split at h
   ·rename_i hlt
    injection h with h1 h2 h3
    subst h1;subst h2;subst h3
    refine wp_load_sub hop he hI.st hm hr hs (by simpa [denL_len]using hlt) (cs:=(denL ρ α ((b.c.drop _).take sz)).toArray) ?_ (fin_pure hI hw hK)
    rw [ext_eq,denL_drop]
   cases h
  ·rename_i b _ hb hr
   have hm:=hI.blk (blkOf_eq hb).1 (blkOf_eq hb).2
   split at h
   ·rename_i v' hv
    injection h with h1 h2 h3
    subst h1;subst h2;subst h3
    exact wp_load_one hop he hI.st hm hr (by rw [lookL_eq];exact denL_at hv) (fin_pure hI hw hK)
   cases h
  cases h
 ·-- load of an element
  rename_i s' i' sz off
  split at h
  ·rename_i b k hro hsz
   obtain⟨rfl,rfl,m,c,e,ds,p,rfl,hrow,hst,hv⟩:=planLd_ef h
   obtain⟨kk,hn,hk⟩:=rdOfN_eq hrow
   have hbd:=stru_bnd (ρ:=ρ) hst α
   obtain⟨k2,j,rfl,h1,h2,h3,h4,h5,rfl⟩:=stru_of hst
   obtain⟨ad,len,cap,k',j',g1,g2,g3,g4,g5,g6⟩:=rd_full hI hn hk hbd
   rw [flatA_den h1]at g6
   simp only [V.den]at g2
   cases g2
   simp [Op.operands,denL,V.den]at he
   rw [g1]at he
   simp only [epv]at he
   have hlen:j.toNat*sz+off+k≤(denL ρ α ds).length:=by
    rw [denL_len]
    rw [Nat.add_mul]at h5
    omega
   rcases hv with ⟨rfl,rfl⟩|⟨rfl,hv⟩
   ·refine wp_load_at hop he hro (Rd.cells_at g6 hlen) ?_ ?_
    ·rw [hsz];simp only [List.size_toArray,List.length_take,List.length_drop];congr 1;omega
    ·have:=fin_pure hI hw hK
     simpa only [V.den,denL_drop]using this
   refine wp_load_cell hop he hro ?_ (fin_pure hI hw hK)
   obtain⟨ad',e',hcl⟩:=Rd.in g6 (by omega:j.toNat*sz+off<(denL ρ α ds).length)
   cases e'
   exact hcl _ _ (denL_at hv)
  cases h
 ·-- store
  rename_i n off vv
  simp [Op.operands,denL,V.den]at he
  obtain⟨e1,e2⟩:=he
  split at h
  ·rename_i b sz hb hs
   split at h
   ·rename_i hc
    obtain⟨hc1,hc2,hc3,hc4⟩:=hc
    injection h with h1 h2 h3
    subst h1;subst h2;subst h3
    obtain⟨hbn,hbk⟩:=blkOf_eq hb
    have hup:Upd (α n).b (denL ρ α b.c).toArray b.t (splice (denL ρ α b.c).toArray off (denL ρ α vv.cells).toArray) (chs ρ α 0 s.hp) (chs ρ α 0 (s.hp.set n (some ⟨spliceV b.c off vv.cells,b.t,b.k⟩))) :=
     chs_set (k:=0) hbn (by simp only [Blk.ch,hbk,Nat.zero_add]) (by simp only [Blk.ch,hbk,Nat.zero_add,splice_den])
    have hrow:(⟨spliceV b.c off vv.cells,b.t,b.k⟩:Blk).rowOk ρ α n:=by simp [Blk.rowOk,hbk]
    have hown:∀ c:List V,(⟨c,b.t,b.k⟩:Blk).own=true:=fun c=>by simp [Blk.own,hbk]
    cases hA:vv.isA
    ·have hcs:vv.cells=[vv]:=by cases vv<;>first|rfl|simp [V.isA]at hA
     rw [hcs]at hup hrow hc1 hc3 hw hK
     simp at hc1
     subst hc1
     have h1c:(vv.den ρ α).oneCell'=true:=oneB_ok hI hsh (by simpa [vonesB]using hc3)
     refine wp_store_one hop e1 e2 hI.st hup ?_ hs (by simp [denL_len];omega) h1c fun W' hS=>fin_wr hI hbn hrow (hown _) hw hK hS rfl
     rw [setL_splice (by simp [denL_len];omega)]
     rfl
    obtain⟨cs,rfl⟩:∃ cs,vv=.a cs:=by cases vv<;>simp [V.isA]at hA;exact⟨_,rfl⟩
    simp only [V.cells]at *
    refine wp_store_sub hop e1 e2 hI.st hup ?_ ?_ (onesB_ok hI hsh hc3) fun W' hS=>fin_wr hI hbn hrow (hown _) hw hK hS rfl
    ·rw [hs];simp [denL_len,hc1]
    simp [denL_len];omega
   cases h
  cases h
 ·-- nilCheck
  simp [Op.operands,denL,V.den]at he
  injection h with h1 h2 h3
  subst h1;subst h2;subst h3
  exact wp_nil hop he (fin_pure hI hw hK)
 ·-- fieldAddr
  simp [Op.operands,denL,V.den]at he
  split at h
  ·rename_i d hd
   injection h with h1 h2 h3
   subst h1;subst h2;subst h3
   exact wp_fieldAddr hop he hd (fin_pure hI hw hK)
  cases h
 ·-- fieldAddr of an element
  split at h
  ·exact(planEp_no h).elim
  cases h
 ·-- field
  simp [Op.operands,denL,V.den]at he
  split at h
  ·rename_i off e hf
   split at h
   ·rename_i sz hr hs
    split at h
    ·injection h with h1 h2 h3
     subst h1;subst h2;subst h3
     refine wp_field_row hop he hf hr hs ?_ (fin_pure hI hw hK)
     rw [ext_eq,← denL_drop]
    cases h
   ·rename_i _ hr
    split at h
    ·rename_i v' hv
     injection h with h1 h2 h3
     subst h1;subst h2;subst h3
     exact wp_field_one hop he hf hr (by rw [lookL_eq];exact denL_at hv) (fin_pure hI hw hK)
    cases h
   cases h
  cases h
 ·-- indexAddr
  simp [Op.operands,denL,V.den]at he
  split at h
  ·rename_i len e hf
   split at h
   ·rename_i sz hs
    split at h
    ·rename_i hi
     injection h with h1 h2 h3
     subst h1;subst h2;subst h3
     exact wp_indexAddr_arr hop he.1 he.2 hf hi.1 hi.2 hs rfl (fin_pure hI hw hK)
    cases h
   cases h
  cases h
 ·split at h<;>cases h
 ·simp [Op.operands,denL,V.den]at he
  split at h
  ·rename_i e hf
   split at h
   ·rename_i sz hs
    split at h
    ·rename_i hi
     injection h with h1 h2 h3
     subst h1;subst h2;subst h3
     refine wp_indexAddr_sl hop he.1 he.2 (slOf_eq hf) hi.1 hi.2 hs (add_zero_addr _ _ _) (fin_pure hI hw hK)
    cases h
   cases h
  cases h
 ·cases h
 ·split at h
  ·split at h
   ·exact(planEp_no h).elim
   cases h
  cases h
 ·split at h
  ·split at h
   ·exact(planEp_no h).elim
   cases h
  cases h
 ·-- store into a row
  rename_i n i sz off vv
  simp [Op.operands,denL,V.den]at he
  split at h
  ·rename_i c e sz' k hrow hs
   split at h
   ·rename_i ds p hst
    split at h
    ·rename_i hc
     obtain⟨rfl,hc2,hc3,hc4⟩:=hc
     injection h with h1 h2 h3
     subst h1;subst h2;subst h3
     have hbd:=stru_bnd (ρ:=ρ) hst α
     obtain⟨k2,j,rfl,g1,g2,g3,g4,g5,rfl⟩:=stru_of hst
     refine rset_gen (sh0:=sh) hop he.1 he.2 (rowOfN_eq hrow) hs hc2 hc3 (onesB_ok hI hsh hc4) hI hbd (by omega) ?_ hw hK
     rw [flatA_den g1]
     simp [denL,V.den,cellsV,spliceV,denL_app,denL_map,List.map_take,List.map_drop,idxOf]
    cases h
   split at h<;>cases h
  cases h
 ·-- index
  simp [Op.operands,denL,V.den]at he
  split at h
  ·rename_i len e hf
   split at h
   ·rename_i sz hr hs
    split at h
    ·rename_i hi
     injection h with h1 h2 h3
     subst h1;subst h2;subst h3
     refine wp_index_row hop he.1 he.2 hf hi.1 hi.2.1 hr hs ?_ (fin_pure hI hw hK)
     rw [ext_eq,← denL_drop]
    cases h
   ·rename_i hr hs
    split at h
    ·rename_i hi
     split at h
     ·rename_i v' hv
      injection h with h1 h2 h3
      subst h1;subst h2;subst h3
      exact wp_index_one hop he.1 he.2 hf hi.1 hi.2 hr hs (by rw [lookL_eq];exact denL_at hv) (fin_pure hI hw hK)
     cases h
    cases h
   cases h
  cases h
 ·split at h<;>cases h
 ·-- extract
  simp [Op.operands,denL,V.den]at he
  split at h
  ·rename_i v' hv
   injection h with h1 h2 h3
   subst h1;subst h2;subst h3
   exact wp_extract hop he (by rw [lookL_eq];exact denL_at hv) (fin_pure hI hw hK)
  cases h
 ·-- binOp
  simp [Op.operands,denL]at he
  split at h
  ·split at h
   ·split at h<;>cases h
   ·split at h<;>cases h
   cases h
  ·split at h<;>cases h
  split at h
  ·rename_i hbt
   obtain⟨c,d,u,rfl,rfl,hu,h1c,rfl,rfl,rfl⟩:=sc2_ef h
   exact wp_val (run_binb hop he.1 he.2 hbt hu) (fin_pure hI hw hK)
  obtain⟨c,d,u,rfl,rfl,hu,h1c,rfl,rfl,rfl⟩:=sc2_ef h
  exact wp_val (run_bin hop he.1 he.2 hu) (fin_pure hI hw hK)
 ·-- not
  simp [Op.operands,denL]at he
  obtain⟨c,u,rfl,hu,h1c,rfl,rfl,rfl⟩:=sc1_ef h
  exact wp_val (run_not hop he hu) (fin_pure hI hw hK)
 ·simp [Op.operands,denL]at he
  obtain⟨c,u,rfl,hu,h1c,rfl,rfl,rfl⟩:=sc1_ef h
  exact wp_val (run_neg hop he hu) (fin_pure hI hw hK)
 ·-- convert
  simp [Op.operands,denL]at he
  split at h
  ·rename_i hs hd
   obtain⟨c,u,rfl,hu,h1c,rfl,rfl,rfl⟩:=sc1_ef h
   exact wp_val (run_conv hop he hs hd hu) (fin_pure hI hw hK)
  cases h
 ·-- a slice of a row
  unfold planSx at h
  split at h
  ·split at h<;>cases h
  cases h
 ·-- slice
  rename_i bs _
  unfold planSl at h
  split at h
  ·rename_i n oo _
   split at h
   ·rename_i len e hf
    split at h
    ·rename_i sz l h' m hsz hkl
     split at h
     ·rename_i l1 h1 m1 hb
      injection h with h2 h3 h4
      subst h2;subst h3;subst h4
      obtain⟨vs',hk1,hk2⟩:=Option.bind_eq_some_iff.1 hkl
      obtain⟨hx,hop2⟩:=slice_ops he hk1 hk2
      refine wp_val (run_slArr hop (by simpa [V.den]using hx) hf hsz hop2 hb) ?_
      exact fin_pure (v:=.sl n (if m1=l1 then oo else oo+l1*sz) (h1-l1) (m1-l1)) hI hw hK |> fun q=>by
       have e:(V.sl n (if m1=l1 then oo else oo+l1*sz) (h1-l1) (m1-l1)).den ρ α=.slice (some (if m1=l1 then(⟨(α n).b,oo,none⟩:Addr)else(⟨(α n).b,oo,none⟩:Addr).add (l1*sz))) (h1-l1) (m1-l1):=by
        simp only [V.den]
        split<;>simp [add_zero_addr]
       rw [e]at q
       exact q
     cases h
    cases h
   cases h
  ·rename_i n oo len cap _
   split at h
   ·rename_i e hf
    split at h
    ·rename_i sz l h' m hsz hkl
     split at h
     ·rename_i l1 h1 m1 hb
      injection h with h2 h3 h4
      subst h2;subst h3;subst h4
      obtain⟨vs',hk1,hk2⟩:=Option.bind_eq_some_iff.1 hkl
      obtain⟨hx,hop2⟩:=slice_ops he hk1 hk2
      refine wp_val (run_slSl hop (by simpa [V.den]using hx) (slOf_eq hf) hsz hop2 hb) ?_
      exact fin_pure (v:=.sl n (if m1=l1 then oo else oo+l1*sz) (h1-l1) (m1-l1)) hI hw hK |> fun q=>by
       have e:(V.sl n (if m1=l1 then oo else oo+l1*sz) (h1-l1) (m1-l1)).den ρ α=.slice (if m1=l1 then some (⟨(α n).b,oo,none⟩:Addr)else(some (⟨(α n).b,oo,none⟩:Addr)).map (·.add (l1*sz))) (h1-l1) (m1-l1):=by
        simp only [V.den]
        split<;>simp [add_zero_addr]
       rw [e]at q
       exact q
     cases h
    cases h
   cases h
  split at h
  ·cases h
  ·split at h<;>cases h
  cases h
 ·-- makeFunc
  injection h with h1 h2 h3
  subst h1;subst h2;subst h3
  refine wp_val (u:=_) ?_ (fin_pure hI hw hK)
  simp only [execOp,hop,Instr.makeFunc,Sem.run_bind,Sem.run_pure,Result.andThen_ok]
  simp only [Op.operands,Array.toList_append,List.map_append]at he
  rename_i first cap
  have hl:(first.toList.map a.eval).length=first.size:=by simp
  have h4:denL ρ α (vs.take first.size)=first.toList.map a.eval:=by
   have:=congrArg (List.take first.size) he
   rw [List.take_left' hl]at this
   rw [this,denL_map,denL_map,List.map_take]
  have h5:denL ρ α (vs.drop first.size)=cap.toList.map a.eval:=by
   have:=congrArg (List.drop first.size) he
   rw [List.drop_left' hl]at this
   rw [this,denL_map,denL_map,List.map_drop]
  simp only [V.den,h4,h5]
  simp [← Array.toList_map]
 ·-- build
  rename_i parts
  split at h
  ·rename_i pl z hpl hz
   split at h
   ·rename_i cs hf
    split at h
    ·rename_i hsz
     obtain⟨hsz,hall⟩:=hsz
     injection h with h1 h2 h3
     subst h1;subst h2;subst h3
     refine wp_build hop (cs:=(denL ρ α cs).toArray) ?_ (fin_pure hI hw hK)
     have hpv:(parts.map fun(i,x)=>(i,a.eval x)).toList=(parts.toList.map (·.1)).zip (denL ρ α vs):=by
      rw [← he]
      simp only [Op.operands,Array.toList_map,List.map_map]
      rw [List.zip_map',]
      exact List.map_congr_left fun x _=>rfl
     rw [hpv]
     rw [place_built hpl hz]
     have hfd:=fillV_den hI.good α (fun e he'=>?_) hf
     ·rw [map_k]at hfd
      simp only [Array.toArray_toList]at hfd
      rw [← hfd]
      rw [List.map_fst_zip (by simp [hsz]),List.map_snd_zip (by simp [hsz])]
     have h5:=(List.of_mem_zip he').2
     have h6:=List.all_eq_true.1 hall _ h5
     simp only [Bool.or_eq_true]at h6
     exact h6.imp id fun h=>one_ok hI.good hsh α h
    cases h
   cases h
  cases h
 ·-- buildSlice
  rename_i n parts
  split at h
  ·rename_i e hsl
   split at h
   ·rename_i sz z hsz hz
    split at h
    ·rename_i hc
     obtain⟨rfl,hp0,hz0⟩:=hc
     injection h with h1 h2 h3
     subst h1;subst h2;subst h3
     have hpv:parts=#[]:=Array.eq_empty_of_size_eq_zero hp0
     refine wp_build0 (by rw [hop,hpv]) (slOf_eq hsl) hsz hI.st fun k W' hS=>?_
     refine fin_row hI (hnm.resolve_left nofun) rfl hw hK ⟨k,.slice (some ⟨k,0,none⟩) 0 0,[]⟩ (fun α' h1 h2 h3 h4=>⟨?_,?_⟩) fun α' h1=>by simp only [V.den,h1]
     ·refine St.perm ?_ (chs_new (k:=0) (hnm.resolve_left nofun).1 (e:=⟨k,#[],e⟩) (by simp [Blk.ch,h1,Blk.xs,denL]))
      rw [h4];exact hS
     exact⟨hz0,.inr ⟨0,0,by rw [h1],by simp [Blk.xs,denL],by simp [Blk.xs,denL,h1],Nat.le_refl _,by simp [maxLen]⟩⟩
    split at h
    ·rename_i hc
     obtain⟨hb0,_,hb1,hc1,hc2,hc3,hc4,hc5⟩:=hc
     injection h with h1 h2 h3
     subst h1;subst h2;subst h3
     have hall:∀ v∈vs,v.cells.length=sz∧(v.isA=true∨(v.den ρ α).oneCell'=true):=fun v hv=>by
      have:=List.all_eq_true.1 hc5 v hv
      simp only [Bool.and_eq_true,Bool.or_eq_true,beq_iff_eq]at this
      exact⟨this.1,this.2.imp id fun h=>one_ok hI.good hsh α h⟩
     have hpv:(parts.map fun(i,x)=>(i,a.eval x)).toList=((denL ρ α vs).zipIdx 0).map fun p=>(p.2,p.1):=by
      have h7:(parts.map fun(i,x)=>(i,a.eval x)).toList=(parts.toList.map (·.1)).zip (denL ρ α vs):=by
       rw [← he]
       simp only [Op.operands,Array.toList_map,List.map_map]
       rw [List.zip_map']
       exact List.map_congr_left fun x _=>rfl
      rw [h7,hc1,← hc2,← denL_len ρ α vs]
      generalize denL ρ α vs=l
      rw [List.range_eq_range',List.zipIdx_eq_zip_range',List.map_zip_eq_zipWith,List.zip_eq_zipWith,List.zipWith_comm]
      rfl
     refine wp_buildS hop (slOf_eq hsl) hsz hz (denL ρ α vs) hpv (by rw [denL_len,hc2]) (fun u hu=>?_) hc4 hc3 hI.st fun k W' hS _ _=>?_
     ·rw [denL_map]at hu
      obtain⟨v,hv,rfl⟩:=List.mem_map.1 hu
      rw [cells_den (hall v hv).2]
      simp [denL_len,(hall v hv).1]
     have hln:(vs.flatMap V.cells).length=n*sz:=by rw [flat_cells_len fun v hv=>(hall v hv).1,hc2]
     refine fin_row hI (hnm.resolve_left nofun) rfl hw hK ⟨k,.slice (some ⟨k,0,none⟩) n n,[]⟩ (fun α' h1 h2 h3 h4=>?_) fun α' h1=>by simp only [V.den,h1]
     have hx:(⟨[V.a (vs.flatMap V.cells)],e,.row sz⟩:Blk).xs ρ α'=denL ρ α (vs.flatMap V.cells):=by
      show(denL ρ α' [V.a (vs.flatMap V.cells)]).flatMap cellsV=_
      rw [show denL ρ α' [V.a (vs.flatMap V.cells)]=denL ρ α [V.a (vs.flatMap V.cells)] from h3]
      simp [denL,V.den,cellsV]
     refine⟨?_,?_⟩
     ·refine St.perm ?_ (chs_new (k:=0) (hnm.resolve_left nofun).1 (e:=⟨k,(denL ρ α (vs.flatMap V.cells)).toArray,e⟩) (by simp [Blk.ch,h1,hx]))
      rw [h4,← flat_den (fun v hv=>(hall v hv).2)]
      exact hS
     exact⟨hb1,.inr ⟨n,n,by rw [h1],by rw [hx,denL_len,hln],by rw [hx,h1,List.append_nil,denL_len,hln],Nat.le_refl _,Nat.le_trans (Nat.le_mul_of_pos_right n hb1) (Nat.le_trans hc4 (by simp [maxLen]))⟩⟩
    split at h
    ·rename_i hc
     obtain⟨hc1,hc2,hc3,hc4,hc5⟩:=hc
     injection h with h1 h2 h3
     subst h1;subst h2;subst h3
     have hall:∀ v∈vs,v.cells.length=sz∧(v.isA=true∨(v.den ρ α).oneCell'=true):=fun v hv=>by
      have:=List.all_eq_true.1 hc5 v hv
      simp only [Bool.and_eq_true,Bool.or_eq_true,beq_iff_eq]at this
      exact⟨this.1,this.2.imp id fun h=>one_ok hI.good hsh α h⟩
     have hpv:(parts.map fun(i,x)=>(i,a.eval x)).toList=((denL ρ α vs).zipIdx 0).map fun p=>(p.2,p.1):=by
      have h7:(parts.map fun(i,x)=>(i,a.eval x)).toList=(parts.toList.map (·.1)).zip (denL ρ α vs):=by
       rw [← he]
       simp only [Op.operands,Array.toList_map,List.map_map]
       rw [List.zip_map']
       exact List.map_congr_left fun x _=>rfl
      rw [h7,hc1,← hc2,← denL_len ρ α vs]
      generalize denL ρ α vs=l
      rw [List.range_eq_range',List.zipIdx_eq_zip_range',List.map_zip_eq_zipWith,List.zip_eq_zipWith,List.zipWith_comm]
      rfl
     refine wp_buildS hop (slOf_eq hsl) hsz hz (denL ρ α vs) hpv (by rw [denL_len,hc2]) (fun u hu=>?_) hc4 hc3 hI.st fun k W' hS _ _=>fin_new hI (hnm.resolve_left nofun) rfl hw hK (b:=mkB (vs.flatMap V.cells) e) (k:=k) ?_ fun α' hα=>by simp [V.den,hα]
     ·rw [denL_map]at hu
      obtain⟨v,hv,rfl⟩:=List.mem_map.1 hu
      rw [cells_den (hall v hv).2]
      simp [denL_len,(hall v hv).1]
     rw [← flat_den (fun v hv=>(hall v hv).2)]
     exact hS
    cases h
   cases h
  cases h
 ·-- call
  rename_i c
  have hargs:∀ b,c.callee=.builtin b→c.args.map a.eval=(denL ρ α vs).toArray:=fun b hb=>by
   rw [← he]
   exact Array.ext' (by simp [Op.operands,Call.operands,hb])
  split at h
  ·split at h
   ·split at h
    ·split at h
     ·exact(planAx_no h).elim
     exact(planAp_no h).elim
    cases h
   cases h
  ·split at h<;>cases h
  ·rename_i x hcal
   have ha:=hargs _ hcal
   split at h
   ·rename_i str hstr
    split at h
    ·rename_i n oo l cc
     injection h with h1 h2 h3
     subst h1;subst h2;subst h3
     have ha':c.args.map a.eval=#[.slice (some ⟨(α n).b,oo,none⟩) l cc]:=by rw [ha];simp [denL,V.den]
     exact wp_val (run_len hop hcal hstr ha' rfl) (fin_pure hI hw hK)
    obtain⟨c',u,rfl,hu,h1c,rfl,rfl,rfl⟩:=sc1_ef h
    exact wp_val (run_len hop hcal hstr (by rw [ha];simp [denL,V.den]) hu) (fin_pure hI hw hK)
   cases h
  ·rename_i x hcal
   have ha:=hargs _ hcal
   split at h
   ·rename_i hstr
    split at h
    ·rename_i n oo l cc
     injection h with h1 h2 h3
     subst h1;subst h2;subst h3
     have ha':c.args.map a.eval=#[.slice (some ⟨(α n).b,oo,none⟩) l cc]:=by rw [ha];simp [denL,V.den]
     exact wp_val (run_cap hop hcal hstr ha' rfl) (fin_pure hI hw hK)
    obtain⟨c',u,rfl,hu,h1c,rfl,rfl,rfl⟩:=sc1_ef h
    exact wp_val (run_cap hop hcal hstr (by rw [ha];simp [denL,V.den]) hu) (fin_pure hI hw hK)
   cases h
  ·rename_i x y hcal
   have ha:=hargs _ hcal
   obtain⟨c',d',u,rfl,rfl,hu,h1c,rfl,rfl,rfl⟩:=sc2_ef h
   exact wp_val (run_min hop hcal (by rw [ha];simp [denL,V.den]) hu) (fin_pure hI hw hK)
  ·rename_i x y hcal
   have ha:=hargs _ hcal
   obtain⟨c',d',u,rfl,rfl,hu,h1c,rfl,rfl,rfl⟩:=sc2_ef h
   exact wp_val (run_max hop hcal (by rw [ha];simp [denL,V.den]) hu) (fin_pure hI hw hK)
  ·split at h
   ·exact(planCl_no h).elim
   exact(planCw_no h).elim
  cases h
 ·-- makeSlice
  split at h
  ·rename_i e hsl
   split at h
   ·rename_i sz z by' hsz hz hb
    split at h
    ·rename_i L' M' hkn
     obtain⟨_,_,rfl,rfl⟩:=mkKn_eq hkn
     split at h
     ·rename_i hc
      obtain⟨hc1,hcL,hc3,hc4⟩:=hc
      subst hcL
      injection h with h1 h2 h3
      subst h1;subst h2;subst h3
      simp [Op.operands,denL,V.den]at he
      refine wp_makeS hop he.1 he.2 (slOf_eq hsl) hsz hz hb hc1 (Int.le_refl _) hc4 (by omega) hI.st fun k W' hS _ _=>?_
      have hden:∀ (l:List Value),denL ρ α (l.map V.k)=l:=fun l=>by rw [denL_map,List.map_map];exact(List.map_congr_left fun x _=>by simp [V.den]).trans (List.map_id l)
      exact fin_new hI (hnm.resolve_left nofun) rfl hw hK (b:=mkB ((madeCells z.cells (L'.toNat*sz)).toList.map .k) e) (k:=k) (by show St w0 (⟨k,(denL ρ α ((madeCells z.cells (L'.toNat*sz)).toList.map V.k)).toArray,e⟩::_) _ _ _;rw [hden];exact hS) fun α' h1=>by simp only [V.den,h1]
     cases h
    split at h<;>cases h
   cases h
  cases h
 cases h
theorem shape_ef0{sh:List Sh}{op:Op}{vs:List V}{bs bs':List (Nat×Option Blk)}{v:V}{new:Option Blk}{wr:Option (Nat×Blk)}(hs:shapeOp op=true)(h:planV0 C sh nm op vs bs=.ef v new wr):planV0 C sh nm op vs bs'=.ef v new wr:=by
 have hep:∀ s i sz o',planEp bs s i sz o'≠.ef v new wr:=fun s i sz o'=>by
  unfold planEp
  split
  ·split
   ·split<;>nofun
   nofun
  nofun
 unfold planV0 at h ⊢
 split at h<;>first
  | (exfalso;revert hs;simp [shapeOp];done)
  | skip
 all_goals first
  | exact h
  | (
   split at h
   ·exact absurd h (hep _ _ _ _)
   cases h)
  | (
   split at h
   ·split at h
    ·exact absurd h (hep _ _ _ _)
    cases h
   cases h)
  | skip
 rename_i c
 obtain⟨cal,ar,at'⟩:=c
 cases cal with
 | value f=>simp [shapeOp]at hs
 | invoke _ _=>simp [shapeOp]at hs
 | builtin b =>
  cases b<;>simp [shapeOp]at hs
  split at h
  all_goals first
   | (rename_i q;cases q;done)
   | skip
  all_goals first
   | exact h
   | (split at h<;>cases h)
theorem shape_call{c:Go.Call}{vs:List V}(h:shapeO (.call c) vs=true):c.callee=.builtin .len∧mapArg vs=false:=by
 obtain⟨cal,ar,at'⟩:=c
 unfold shapeO at h
 rw [Bool.and_eq_true]at h
 refine⟨?_,by simpa using h.2⟩
 have h:=h.1
 cases cal with
 | value f=>simp [shapeOp]at h
 | invoke _ _=>simp [shapeOp]at h
 | builtin b=>cases b<;>simp [shapeOp]at h<;>rfl
theorem shapeN{sh:List Sh}{op:Op}{vs:List V}{bs bs':List (Nat×Option Blk)}(hs:shapeO op vs=true):planN C sh nm op vs bs=planN C sh nm op vs bs':=by
 unfold planN
 split<;>first
  | rfl
  | (exfalso;revert hs;simp [shapeO,shapeOp,mapArg];done)
  | (simp only [planEp];done)
  | (have h1:=(shape_call hs).1;simp only [h1];done)
  | (have h1:=(shape_call hs).1;simp only [h1,planMd];done)
theorem shape_ef{sh:List Sh}{op:Op}{vs:List V}{bs bs':List (Nat×Option Blk)}{v:V}{new:Option Blk}{wr:Option (Nat×Blk)}(hs:shapeO op vs=true)(h:planV C sh nm op vs bs=.ef v new wr):planV C sh nm op vs bs'=.ef v new wr:=by
 rcases planV_eq h with ⟨h1,h2⟩|⟨h1,h2⟩
 ·rw [shapeN hs (bs':=bs')]at h1
  unfold planV
  rw [h1]
 rw [shapeN hs (bs':=bs')]at h1
 unfold planV
 rw [h1]
 exact shape_ef0 (shapeO_op hs) h2
theorem planCp_no{bs:List (Nat×Option Blk)}{m n:Nat}{g:FuncId}{ts:List TypeId}{args:List V}{v:V}{new:Option Blk}{wr:Option (Nat×Blk)}(h:planCp C bs m g n ts args=.ef v new wr):False:=by
 unfold planCp at h
 split at h
 ·split at h<;>cases h
 cases h
theorem planRc_no{bs:List (Nat×Option Blk)}{nm m:Nat}{g:FuncId}{ts:List TypeId}{args:List V}{v:V}{new:Option Blk}{wr:Option (Nat×Blk)}(h:planRc C bs nm m g ts args=.ef v new wr):False:=by
 unfold planRc at h
 split at h
 ·split at h
  ·split at h
   ·split at h<;>cases h
   cases h
  cases h
 ·split at h
  ·split at h
   ·split at h
    ·split at h<;>cases h
    cases h
   cases h
  cases h
 cases h
theorem map2'{args:Array Operand}{f:Operand→Value}{x y:Value}(h:args.map f=#[x,y]):∃ p q,args=#[p,q]∧f p=x∧f q=y:=by
 have h1:args.size=2:=by have:=congrArg Array.size h;simpa using this
 refine⟨args[0],args[1],?_,?_,?_⟩
 ·apply Array.ext
  ·simp [h1]
  intro i hi hi2
  have:i=0∨i=1:=by omega
  rcases this with rfl|rfl<;>rfl
 ·have:=congrArg (fun a=>a[0]?) h;simpa [h1]using this
 ·have:=congrArg (fun a=>a[1]?) h;simpa [h1]using this
theorem wp_copy_to{P:Program}{hs hs':List Ch}{os:List Ow}{t t' e:TypeId}{xo yo:Operand}{ad:Addr}{g o1 l1 c1 l2 c2:Nat}{cur:Array Value}{tt:TypeId}{cs:List Value}(hop:o.op=.call { callee:=.builtin .copy,args:=#[xo,yo],argTypes:=#[t,t'] }) (hx:a.eval xo=.slice (some ⟨g,o1,none⟩) l1 c1) (hy:a.eval yo=.slice (some ad) l2 c2)
 (hu:P.underlying t=some (.slice e)) (hs1:szOf P e=some 1) (hS:St w0 hs os ps W) (hup:Upd g cur tt (cur.toList.take o1++cs++cur.toList.drop (o1+cs.length)).toArray hs hs') (hn:cs.length=Nat.min l2 l1) (hsrc:∀ j v,cs[j]?=some v→W.cell? (ad.add j)=some v) (hfit:o1+cs.length≤cur.size) (h1:∀ v∈cs,v.oneCell'=true)
 (h:∀ W',St w0 hs' os ps W'→K (a.put o.dst (.int .i64 ((cs.length:Nat):Int))) W'):o.wp P a W K Q:=by
 have hrun:=run_copy_row (P:=P) W t t' o.type e g o1 l1 c1 ad l2 c2 cur tt cs hu hs1 (hS.at_ hup.mem) hn hsrc hfit (fun v hv=>by simpa [Value.oneCell']using h1 v hv)
 unfold Oper.wp execOp
 simp only [hop,resolve,invoke,builtin,Sem.run_bind,Sem.run_pure,Result.andThen_ok,List.map_toArray,List.map_cons,List.map_nil,hx,hy,hrun,goInt]
 exact h _ (hS.put hup)
theorem chs_same{ρ:List Value}{α α':Nat→AV}:∀ {hp:List (Option Blk)}{k:Nat},(∀ (n:Nat)(b:Blk),hp[n]?=some (some b)→b.ch ρ α' (k+n)=b.ch ρ α (k+n))→chs ρ α' k hp=chs ρ α k hp
 | [],_,_=>rfl
 | none::l,k,h=>by
  unfold chs
  exact chs_same fun n b hb=>by
   have:=h (n+1) b (by simpa using hb)
   rwa [show k+1+n=k+(n+1) by omega]
 | some b::l,k,h=>by
  have h0:=h 0 b rfl
  rw [Nat.add_zero]at h0
  have hl:chs ρ α' (k+1) l=chs ρ α (k+1) l:=chs_same fun n b hb=>by
   have:=h (n+1) b (by simpa using hb)
   rwa [show k+1+n=k+(n+1) by omega]
  unfold chs
  rw [hl,h0]
theorem fin_move{v:V}{b:Blk}{n:Nat}{u:Value}(hI:InvA w0 ps T ρ s a W α)(hnm:freeIn s nm)(hw:effWf s nm v (some b) (some (n,tomb))=true)(hK:∀ a' W',Inv w0 ps T ρ (s.eff nm o.dst v (some b) (some (n,tomb))) a' W'→K a' W')
 (A:AV) {W':World} (hS:∀ α',α' nm=A→(∀ n,lv s.ln n=true→α' n=α n)→denL ρ α' b.c=denL ρ α b.c→(∀ (m:Nat) (c:Blk),s.hp[m]?=some (some c)→c.ch ρ α' m=c.ch ρ α m)→chs ρ α' 0 s.hp=chs ρ α 0 s.hp→St w0 (chs ρ α' 0 ((s.hp.set nm (some b)).set n (some tomb))) (osA a s T) (exs w0 ρ α 0 s.hp++ps) W'∧b.rowOk ρ α' nm) (hbo:b.own=true) (hu:∀ α',α' nm=A→u=v.den ρ α'):K (a.put o.dst u) W':=by
 simp only [effWf,effH,Bool.and_eq_true,hI.good.len]at hw
 obtain⟨α',h1,h2,h3⟩:=hI.move (n:=n) hnm hw.2.2 hw.1.2 A hS hbo
 exact hK _ _ ⟨α',h3.put_any o.dst hw.1.1 (hu α' h1)⟩
theorem planAs_no{bs:List (Nat×Option Blk)}{m n:Nat}{t t':TypeId}{y:V}{v:V}{new:Option Blk}{wr:Option (Nat×Blk)}(h:planAs C bs nm m t t' n y=.ef v new wr):False:=by
 unfold planAs at h
 split at h
 ·split at h
  ·split at h
   ·split at h<;>cases h
   cases h
  cases h
 cases h
theorem planMl_no{P:Program}{bs:List (Nat×Option Blk)}{t:TypeId}{ok:Bool}{n:Nat}{x v:V}{new:Option Blk}{wr:Option (Nat×Blk)}(h:planMl P bs t ok n x=.ef v new wr):False:=by
 unfold planMl at h
 split at h
 ·split at h<;>cases h
 cases h
theorem planMs_no{P:Program}{bs:List (Nat×Option Blk)}{m n:Nat}{t:TypeId}{x y v:V}{new:Option Blk}{wr:Option (Nat×Blk)}(h:planMs P bs m t n x y=.ef v new wr):False:=by
 unfold planMs at h
 split at h
 ·split at h<;>cases h
 cases h
theorem planMd_no{P:Program}{bs:List (Nat×Option Blk)}{m n:Nat}{c:Callee}{ts:List TypeId}{x v:V}{new:Option Blk}{wr:Option (Nat×Blk)}(h:planMd P bs m c ts n x=.ef v new wr):False:=by
 unfold planMd at h
 split at h
 ·split at h<;>cases h
 cases h
theorem planMn_no{P:Program}{bs:List (Nat×Option Blk)}{n:Nat}{c:Callee}{ts:List TypeId}{v:V}{new:Option Blk}{wr:Option (Nat×Blk)}(h:planMn P bs c ts n=.ef v new wr):False:=by
 unfold planMn at h
 split at h
 ·split at h<;>cases h
 cases h
theorem planCut_no{bs:List (Nat×Option Blk)}{t:TypeId}{n:Nat}{i v:V}{up:Bool}{new:Option Blk}{wr:Option (Nat×Blk)}(h:planCut C bs t n i up=.ef v new wr):False:=by
 unfold planCut at h
 split at h
 ·split at h<;>cases h
 cases h
theorem planAo_no{bs:List (Nat×Option Blk)}{nm m:Nat}{t t':TypeId}{n o l c:Nat}{y v:V}{new:Option Blk}{wr:Option (Nat×Blk)}(h:planAo C bs nm m t t' n o l c y=.ef v new wr):False:=by
 unfold planAo at h
 split at h
 ·split at h
  ·split at h<;>cases h
  cases h
 cases h
theorem planDel_no{bs:List (Nat×Option Blk)}{nm m szp:Nat}{t:TypeId}{n:Nat}{i j v:V}{new:Option Blk}{wr:Option (Nat×Blk)}(h:planDel C bs nm m t n i j szp=.ef v new wr):False:=by
 unfold planDel at h
 split at h
 ·split at h<;>cases h
 cases h
theorem planBs_no{bs:List (Nat×Option Blk)}{x:V}{v:V}{new:Option Blk}{wr:Option (Nat×Blk)}(h:planBs bs x=.ef v new wr):False:=by
 unfold planBs at h
 split at h
 ·split at h
  ·split at h<;>cases h
  cases h
 ·split at h
  ·split at h<;>cases h
  cases h
 ·cases h
 cases h
theorem run_mkIface{P:Program}{t:TypeId}{x:Operand}{c:Value}(hop:o.op=.makeInterface t x)(hx:a.eval x=c)(hn:notIface P t=true):(execOp a.eval o).run P W=.ok (.value (.iface t c)) W:=by
 unfold notIface at hn
 split at hn
 ·cases hn
 ·rename_i d hd hu
  cases hud:d<;>subst hud<;>first
   | exact(hd _ rfl).elim
   | exact(hd _ hu).elim
   | simp [execOp,hop,hx,Instr.makeInterface,run_underlying hu]
 cases hn
theorem run_tassert{P:Program}{x:Operand}{xt t:TypeId}{ok:Bool}{c:Value}{d:TypeDesc}(hop:o.op=.typeAssert x xt t ok)(hx:a.eval x=.iface t c)(hu:P.underlying t=some d)(hd:∀ ms,d≠.interface ms):(execOp a.eval o).run P W=.ok (.value (if ok=true then .tuple #[c,.bool true]else c)) W:=by
 cases hud:d<;>first
  | (subst hud;exact absurd rfl (hd _))
  | (subst hud;cases ok<;>simp [execOp,hop,hx,Instr.typeAssert,run_underlying hu])
theorem run_tassert_no{P:Program}{x:Operand}{xt ta t:TypeId}{c z:Value}{d:TypeDesc}(hop:o.op=.typeAssert x xt ta true)(hx:a.eval x=.iface t c)(hu:P.underlying ta=some d)(hd:∀ ms,d≠.interface ms)(hne:¬ t=ta)(hz:zeroOf P ta=some z):(execOp a.eval o).run P W=.ok (.value (.tuple #[z,.bool false])) W:=by
 have hzr:(zeroValue ta).run P W=.ok z W:=by
  cases hi:P.info? ta with
  | none=>simp [zeroOf,hi]at hz
  | some i=>simp [zeroOf,hi]at hz;simp [zeroValue,typeInfo,hi,hz]
 cases hud:d<;>first
  | (subst hud;exact absurd rfl (hd _))
  | (subst hud;simp [execOp,hop,hx,Instr.typeAssert,run_underlying hu,hne,hzr])
theorem efN_ok{v:V}{new:Option Blk}{wr:Option (Nat×Blk)}{vs:List V}{sh:List Sh}(hsh:sh<+:s.sh)(hvs:o.op.operands.toList.mapM s.ev=some vs){vv0:List V}(h:planN C sh nm o.op vs (blks s.hp vv0)=.ef v new wr)(hI:InvA w0 ps T ρ s a W α)(hnm:new=none∨freeIn s nm)
 (hw:effWf s nm v new wr=true) (hK:∀ a' W',Inv w0 ps T ρ (s.eff nm o.dst v new wr) a' W'→K a' W'):o.wp C.P a W K Q:=by
 have he:=mapM_den hI.good hI.fm hvs
 generalize hop:o.op=op at *
 unfold planN at h
 split at h
 ·split at h
  ·unfold planLd at h
   dsimp only at h
   split at h<;>cases h
  cases h
 ·split at h
  ·split at h
   ·split at h<;>cases h
   cases h
  cases h
 ·split at h
  ·split at h<;>cases h
  cases h
 ·split at h
  ·split at h
   ·exact(planEp_no h).elim
   cases h
  cases h
 ·split at h
  ·split at h
   ·split at h
    ·exact(planEp_no h).elim
    cases h
   cases h
  cases h
 ·split at h
  ·split at h
   ·split at h
    ·exact(planEp_no h).elim
    cases h
   cases h
  cases h
 ·split at h
  ·split at h
   ·split at h
    ·split at h<;>cases h
    cases h
   cases h
  cases h
 ·-- makeSlice with room
  rename_i L' _ M'
  split at h
  ·rename_i e hsl
   split at h
   ·rename_i sz z by' hsz hz hb
    split at h
    ·rename_i hc
     obtain⟨hc1,hcL,hc3,hc4⟩:=hc
     injection h with h1 h2 h3
     subst h1;subst h2;subst h3
     simp [Op.operands,denL,V.den]at he
     refine wp_makeS hop he.1 he.2 (slOf_eq hsl) hsz hz hb hc1 (by omega) hc4 (by omega) hI.st fun k W' hS _ _=>?_
     have hden:∀ (l:List Value),denL ρ α (l.map V.k)=l:=fun l=>by rw [denL_map,List.map_map];exact(List.map_congr_left fun x _=>by simp [V.den]).trans (List.map_id l)
     exact fin_new hI (hnm.resolve_left nofun) rfl hw hK (b:=mkB ((madeCells z.cells (M'.toNat*sz)).toList.map .k) e) (k:=k) (by show St w0 (⟨k,(denL ρ α ((madeCells z.cells (M'.toNat*sz)).toList.map V.k)).toArray,e⟩::_) _ _ _;rw [hden];exact hS) fun α' h1=>by simp only [V.den,h1]
    cases h
   cases h
  cases h
 ·split at h
  ·split at h<;>cases h
  split at h
  ·exact(planBs_no h).elim
  cases h
 ·-- copy
  rename_i c n oo l cc y
  split at h
  ·exact(planAo_no h).elim
  ·rename_i t t' hcal hts
   split at h
   ·rename_i e B hsl hB
    split at h
    ·rename_i hsz
     split at h
     ·rename_i hfit
      split at h
      ·rename_i n' o' l' c'
       split at h
       ·rename_i B' hB'
        split at h
        ·rename_i hc
         obtain⟨hc1,hc2,hc3⟩:=hc
         injection h with h1 h2 h3
         subst h1;subst h2;subst h3
         obtain⟨hbn,hbk⟩:=blkOf_eq hB
         obtain⟨hbn',hbk'⟩:=blkOf_eq hB'
         obtain⟨cal,ar,at'⟩:=c
         simp only at hcal hts
         subst hcal
         have hat:at'=#[t,t']:=by rw [← Array.toArray_toList (xs:=at'),hts]
         subst hat
         simp only [Op.operands,Call.operands,denL,V.den]at he
         have hml:((B'.c.drop o').take (Nat.min l' l)).length=Nat.min l' l:=by
          simp only [List.length_take,List.length_drop]
          have h9:Nat.min l' l≤l':=Nat.min_le_left _ _
          omega
         have hle2:Nat.min l' l≤l:=Nat.min_le_right _ _
         have hup:Upd (α n).b (denL ρ α B.c).toArray B.t ((denL ρ α B.c).toArray.toList.take oo++denL ρ α ((B'.c.drop o').take (Nat.min l' l))++(denL ρ α B.c).toArray.toList.drop (oo+(denL ρ α ((B'.c.drop o').take (Nat.min l' l))).length)).toArray (chs ρ α 0 s.hp) (chs ρ α 0 (s.hp.set n (some ⟨spliceV B.c oo ((B'.c.drop o').take (Nat.min l' l)),B.t,B.k⟩))) :=
          chs_set (k:=0) hbn (by simp only [Blk.ch,hbk,Nat.zero_add]) (by simp only [Blk.ch,hbk,Nat.zero_add];congr 2;simp [spliceV,denL_app,denL_map,List.map_take,List.map_drop])
         have hpq:∃ p q',ar=#[p,q']∧a.eval p=.slice (some ⟨(α n).b,oo,none⟩) l cc∧a.eval q'=.slice (some ⟨(α n').b,o',none⟩) l' c':=map2' (Array.ext' (by simpa using he))
         obtain⟨p,q',rfl,hp,hq⟩:=hpq
         have hdl:(denL ρ α ((B'.c.drop o').take (Nat.min l' l))).length=Nat.min l' l:=by rw [denL_len,hml]
         refine wp_copy_to hop hp hq (slOf_eq hsl) hsz hI.st hup hdl (fun j v hv=>?_) (by rw [hdl];simp [denL_len];omega) (fun v hv=>?_) fun W' hS=>?_
         ·rw [add_zero_addr]
          refine hI.st.cell (hI.blk hbn' hbk') (j:=o'+j) ?_
          rw [denL_drop,List.getElem?_take]at hv
          split at hv
          ·rw [List.getElem?_drop]at hv
           simpa using hv
          cases hv
         ·have:=ones_ok hI.good hsh α hc2
          rw [List.all_toArray,List.all_eq_true]at this
          exact this v hv
         rw [hdl]
         refine fin_wr hI hbn (by simp [Blk.rowOk,hbk]) (by simp [Blk.own,hbk]) hw hK hS rfl
        cases h
       cases h
      ·split at h
       ·split at h<;>cases h
       cases h
      ·cases h
      cases h
     cases h
    cases h
   cases h
  cases h
 ·-- a row cut to nothing
  rename_i t x hi n i
  split at h
  ·exact(planCut_no h).elim
  ·rename_i k
   simp [Op.operands,denL]at he
   obtain⟨he1',he2'⟩:=he
   split at h
   ·rename_i c e sz sz' hrow hsz
    split at h
    ·rename_i hs
     subst hs
     injection h with h1 h2 h3
     subst h1;subst h2;subst h3
     have hnm':freeIn s nm:=hnm.resolve_left nofun
     have hn:=rowOfN_eq hrow
     have hne:n≠nm:=lv_ne (lv_of hn) hnm'.1
     obtain⟨h0,hinfo⟩:=row_info hI hn
     obtain⟨et,hb1,hb2⟩:=Option.bind_eq_some_iff.1 hsz
     have hset:(s.hp.set nm (some ⟨[],e,.row sz'⟩)).set n (some tomb)=(s.hp.set n (some tomb)).set nm (some ⟨[],e,.row sz'⟩):=List.set_comm _ _ (fun h=>hne h.symm)
     have hnm2:(s.hp.set n (some tomb))[nm]?=some none:=by rw [List.getElem?_set_ne hne];exact hnm'.1
     obtain⟨A,len,cap,hh⟩:∃ A len cap,(α n).h=.slice A len cap:=by
      rcases hinfo with ⟨_,h⟩|⟨len,cap,h,_⟩
      ·exact⟨_,_,_,h⟩
      exact⟨_,_,_,h⟩
     have hrun:=run_slSl (P:=C.P) (W:=W) (l1:=0) (h1:=0) (m1:=cap) hop (he1'.trans hh) (slOf_eq hb1) hb2 rfl (by simp [optsO,boundsV,bndV,he2',V.den])
     have hval:(Value.slice (if cap=0 then A else A.map (·.add (0*sz'))) (0-0) (cap-0))=.slice A 0 cap:=by
      have:A.map (·.add (0*sz'))=A:=by
       cases A with
       | none=>rfl
       | some ad=>simp [Addr.add]
      rw [this];simp
     refine wp_val hrun ?_
     rw [hval]
     refine fin_move hI hnm' hw hK ⟨(α n).b,.slice A 0 cap,(denL ρ α c).flatMap cellsV++(α n).tl⟩ (fun α' h1 h2 h3 h5 h4=>?_) rfl (fun α' h1=>by simp only [V.den,h1])
     have hxs:(⟨[],e,.row sz'⟩:Blk).xs ρ α'=[]:=by simp [Blk.xs,denL]
     rcases hinfo with ⟨hx0,hhn⟩|⟨len',cap',hh',hl1,hl2,hlc,hcm,hmem⟩
     ·rw [hhn]at hh
      cases hh
      refine⟨?_,h0,.inl ⟨hxs,by rw [h1]⟩⟩
      have hsame:chs ρ α' 0 (s.hp.set n (some tomb))=chs ρ α 0 s.hp:=by
       obtain⟨l1,l2,q1,q2⟩:=chs_split (ρ:=ρ) (α:=α') (k:=0) hn
       rw [← h4,q1,q2]
       have:(⟨c,e,.row sz'⟩:Blk).ch ρ α' (0+n)=none:=by
        have e5:=h5 n _ hn
        rw [Nat.zero_add,e5]
        simp only [Blk.ch,hhn]
       simp only [Option.bind_some,this]
       simp [tomb,Blk.ch]
      rw [hset,chs_new0 (k:=0) hnm2 (by simp only [Blk.ch,Nat.zero_add,h1]),hsame]
      exact hI.st
     rw [hh']at hh
     cases hh
     obtain⟨l1,l2,q1,q2⟩:=chs_split (ρ:=ρ) (α:=α) (k:=0) hn
     have hchn:(⟨c,e,.row sz'⟩:Blk).ch ρ α (0+n)=some ⟨(α n).b,((denL ρ α c).flatMap cellsV++(α n).tl).toArray,e⟩:=by
      simp only [Blk.ch,Nat.zero_add,hh'];rfl
     have hq1:chs ρ α 0 s.hp=l1++(⟨(α n).b,((denL ρ α c).flatMap cellsV++(α n).tl).toArray,e⟩::l2):=by
      rw [q1]
      simp only [Option.bind_some,hchn,Option.toList_some,List.cons_append,List.nil_append]
     have hrest:chs ρ α' 0 (s.hp.set n (some tomb))=l1++l2:=by
      have e1:chs ρ α 0 (s.hp.set n (some tomb))=l1++l2:=by
       rw [q2];simp [tomb,Blk.ch]
      rw [← e1]
      refine chs_same fun k b hb=>?_
      rcases set_cases hb with ⟨rfl,rfl⟩|⟨_,hb⟩
      ·simp [tomb,Blk.ch]
      simpa using h5 k b hb
     refine⟨?_,h0,.inr ⟨0,cap,by rw [h1],by rw [hxs];simp,by rw [hxs,h1];simpa using hl2,Nat.zero_le _,hcm⟩⟩
     rw [hset]
     refine St.perm ?_ (chs_new (k:=0) hnm2 (e:=⟨(α n).b,((denL ρ α c).flatMap cellsV++(α n).tl).toArray,e⟩) (by simp only [Blk.ch,Nat.zero_add,h1,hxs,List.nil_append]))
     rw [hrest]
     have:=hI.st
     rw [hq1]at this
     exact this.perm List.perm_middle
    cases h
   cases h
  cases h
 ·split at h
  ·exact(planCut_no h).elim
  cases h
 ·split at h
  ·split at h
   ·exact(planDel_no h).elim
   cases h
  cases h
 ·-- no slice,cut to nothing
  rename_i t x hi k
  simp [Op.operands,denL]at he
  obtain⟨he1',he2'⟩:=he
  split at h
  ·rename_i sz hsz
   injection h with h1 h2 h3
   subst h1;subst h2;subst h3
   obtain⟨et,hb1,hb2⟩:=Option.bind_eq_some_iff.1 hsz
   have hrun:=run_slSl (P:=C.P) (W:=W) (A:=none) (len:=0) (cap:=0) (l1:=0) (h1:=0) (m1:=0) hop (he1'.trans rfl) (slOf_eq hb1) hb2 rfl (by simp [optsO,boundsV,bndV,he2',V.den])
   exact wp_val hrun (fin_pure hI hw hK)
  cases h
 ·-- zeros
  split at h
  ·split at h
   ·split at h
    ·split at h<;>cases h
    cases h
   cases h
  cases h
 ·split at h
  ·exact(planCp_no h).elim
  cases h
 ·cases h
 ·-- a string's bytes appended
  split at h
  ·exact(planAs_no h).elim
  cases h
 ·-- a value becomes one of an interface
  rename_i t x u
  simp [Op.operands,denL]at he
  split at h
  ·rename_i hn
   cases h
   exact wp_val (run_mkIface hop he hn) (fin_pure hI hw hK)
  cases h
 ·-- a value of an interface asked for its type
  rename_i x xt ta ok t u
  simp [Op.operands,denL,V.den]at he
  unfold planTa at h
  split at h
  ·cases h
  ·rename_i d z hni hu hz
   split at h
   ·rename_i ht
    subst ht
    cases h
    cases ok
    ·exact wp_val (run_tassert hop he hu (fun ms e=>hni ms e)) (fin_pure hI hw hK)
    exact wp_val (run_tassert hop he hu (fun ms e=>hni ms e)) (fin_pure hI hw hK)
   split at h
   ·rename_i hne hc
    obtain⟨rfl,h1⟩:=hc
    cases h
    exact wp_val (run_tassert_no hop he hu (fun ms e=>hni ms e) hne hz) (fin_pure hI hw hK)
   cases h
  cases h
 ·unfold planTx at h
  split at h
  ·cases h
  ·split at h<;>cases h
  cases h
 ·-- a new map
  rename_i t
  split at h
  ·rename_i kk sz b z hm
   injection h with h1 h2 h3
   subst h1;subst h2;subst h3
   have hrun:(execOp a.eval o).run C.P W=.ok (.value (.map (some W.heap.size))) (W.alloc (.map #[] 0)):=by
    simp only [execOp,hop]
    rfl
   unfold Oper.wp
   rw [hrun]
   have hS:=hI.st.newO #[.int .i64 0] (.map sz b)
   rw [show Ch.obj ⟨W.heap.size,#[.int .i64 0],.map sz b⟩=Obj.map #[] 0 by simp [Ch.obj,mapObj,mapEs,bornOf]]at hS
   refine fin_row (b:=⟨[.a [.k (.int .i64 0)]],0,.mp sz b⟩) hI (hnm.resolve_left nofun) rfl hw hK ⟨W.heap.size,undef,[]⟩ (fun α' h1 h2 h3 h4=>⟨St.perm ?_ (chs_new (k:=0) (hnm.resolve_left nofun).1 (e:=⟨W.heap.size,#[.int .i64 0],.map sz b⟩) ?_),trivial⟩) (fun α' h1=>by simp only [V.den,h1])
   ·rw [h4];exact hS
   simp [Blk.ch,h1,Blk.xs,denL,V.den,cellsV]
  cases h
 ·exact(planMl_no h).elim
 ·exact(planMs_no h).elim
 ·exact(planMd_no h).elim
 ·exact(planMn_no h).elim
 ·split at h
  ·exact(planRc_no h).elim
  cases h
 cases h
theorem ef_ok0{v:V}{new:Option Blk}{wr:Option (Nat×Blk)}{vs:List V}{sh:List Sh}(hsh:sh<+:s.sh)(hvs:o.op.operands.toList.mapM s.ev=some vs){vv0:List V}(h:planV C sh nm o.op vs (blks s.hp vv0)=.ef v new wr)(hI:InvA w0 ps T ρ s a W α)(hnm:new=none∨freeIn s nm)
 (hw:effWf s nm v new wr=true) (hK:∀ a' W',Inv w0 ps T ρ (s.eff nm o.dst v new wr) a' W'→K a' W'):o.wp C.P a W K Q:=by
 rcases planV_eq h with ⟨h1,_⟩|⟨_,h2⟩
 ·exact efN_ok hsh hvs h1 hI hnm hw hK
 exact ef_okV hsh hvs h2 hI hnm hw hK
theorem ef_ok{v:V}{new:Option Blk}{wr:Option (Nat×Blk)}{vs:List V}{sh:List Sh}(hsh:sh<+:s.sh)(hvs:o.op.operands.toList.mapM s.ev=some vs)(h:planV C sh nm o.op vs (s.see o.op vs)=.ef v new wr)(hI:InvA w0 ps T ρ s a W α)(hnm:new=none∨freeIn s nm)
 (hw:effWf s nm v new wr=true) (hK:∀ a' W',Inv w0 ps T ρ (s.eff nm o.dst v new wr) a' W'→K a' W'):o.wp C.P a W K Q:=by
 unfold S.see at h
 split at h
 ·rename_i hs
  exact ef_ok0 (vv0:=vs) hsh hvs (shape_ef hs h) hI hnm hw hK
 exact ef_ok0 hsh hvs h hI hnm hw hK
end
end SX
end Go.Proofs.YtidekfgkpindbaaDoor
