/-
  Texts behind the statement, part 3.
-/
import Derived.Test.YtmgcclhbbhbmcaaGreatRB2
import Derived.RecoverIn
import Derived.Test.YtmgcclhbbhbmcaaGreatProg
import Derived.KernelRfl
set_option linter.unusedSimpArgs false
set_option linter.unusedVariables false
namespace Go.Proofs.YtmgcclhbbhbmcaaGreat
open Go Go.RowKit
namespace Z
abbrev Yl:=Nat→List D→Heap→M (Bool×Heap)
def D.strp:D→D
 | .tup l=>.tup (l.map D.strip)
 | d=>d.strip
def Rs.strp:Rs→Rs
 | .ret d=>.ret d.strp
 | .pan d=>.pan d.strp
def fz1(P:Program)(h:Heap):D→D
 | .ar kn n i len=>match at_ h n with
  | .arr kn' e _ l=>(match tyOf P e with
   | some ty=>if kn'=false∨l.all (elB ty)=true then .sl (kn && kn') e ((l.drop i).take len) .non else .ar kn n i len
   | none=>.ar kn n i len)
  | _=>.ar kn n i len
 | d=>d
def fzP(h:Heap):D→D
 | .p n 0 0=>match at_ h n with
  | .arr _ _ 1 [d]=>if d.cells.all D.pure=true then .ep d 0 else .p n 0 0
  | _=>.p n 0 0
 | d=>d
def fz2(P:Program)(h:Heap):D→D
 | .agg l=>.agg (l.map (fz1 P h))
 | .fn f a b=>.fn f a (b.map (fzP h))
 | d=>fz1 P h d
def D.fz(P:Program)(h:Heap):D→D
 | .tup l=>.tup (l.map (fz2 P h))
 | d=>fz2 P h d
def Rs.fz(P:Program)(h:Heap):Rs→Rs
 | .ret d=>.ret (d.fz P h)
 | r=>r
def Rs.lt:Rs→Bool
 | .ret d=>ltB 8 0 d
 | .pan d=>ltB 8 0 d
def All(W:World):Gh:=fun b o=>W.cell? ⟨b,o,none⟩
def D.sc1:D→Bool
 | .k _|.v _=>true
 | _=>false
def D.scal:D→Bool
 | .tup l=>l.all D.sc1
 | d=>d.sc1
def Rs.scal:Rs→Bool
 | .ret d=>d.scal
 | .pan _=>false
def isAr:D→Bool
 | .ar ..=>true
 | _=>false
def arIn(ns:List Nat)(f:Nat):D→Bool
 | .ar _ n _ _=>ns.contains n && decide (n<f)
 | _=>true
def pcall(P:Program)(pf:FuncId→Bool)(call:Caller):Caller:=fun g args h =>
 if(pf g && args.all (ltB 8 0))=true then(call g args []).bind fun r=>if(r.1.fz P r.2).strp.lt=true then .pure ((r.1.fz P r.2).strp,h)else .bad 205 else if(pf g && args.any isAr && (args.map (fz1 P h)).all (ltB 8 0))=true then(call g (args.map (fz1 P h)) []).bind fun r=>if r.1.scal=true then .pure (r.1,h)else .bad 234 else call g args h
noncomputable def opC(P:Program)(call:Caller)(yl:Yl)(dfs:Bool)(s:S)(o:Oper):M (Ex×S):=match o.op with
 | .call c=>match c.callee with
  | .value f=>match s.opd f with
   | .fn (.func g) fs cap=>if enters P g=true then(call g (fs++c.args.toList.map s.opd++cap) s.h).bind fun r=>(match r.1 with
    | .ret d=>.pure (.normal,({ s with h:=r.2 }:S).put o.dst d)
    | .pan d=>.pure (.pan d,({ s with h:=r.2 }:S)))else .bad 200
   | .y n=>(yl n (c.args.toList.map s.opd) s.h).bind fun r=>.pure (.normal,({ s with h:=r.2 }:S).put o.dst (.k (.bool r.1)))
   | _=>.bad 201
  | _=>opP P s o
 | .defer c=>match c.callee with
  | .value f=>match s.opd f with
   | .fn fn fs cap=>if(dfs && c.args.isEmpty)=true then .pure (.normal,({ s with df:=.fn (.fn fn fs cap)::s.df }:S).put o.dst .any)else .bad 202
   | _=>.bad 203
  | _=>.bad 204
 | _=>opP P s o
def D.names:D→List Nat
 | .p n _ _|.px n _ _|.ar _ n _ _|.mp n|.y n=>[n]
 | .fn _ a b=>a.flatMap nameOf++b.flatMap nameOf
 | .agg l|.tup l=>l.flatMap nameOf
 | _=>[]
def hpOf(f:Nat)(ns:List Nat)(bs:List Blk):Heap:=(List.range f).map fun n=>match ns.idxOf? n with
 | some i=>bs.getD i .non
 | none=>.non
def isNon:Blk→Bool
 | .non=>true
 | _=>false
def notTip:Blk→Bool
 | .tip _=>false
 | _=>true
def usOf(f:Nat)(ns:List Nat)(h:Heap):List (Nat×Blk):=(once ns).map (fun n=>(n,at_ h n))++(List.range (h.length-f)).map fun j=>(f+j,at_ h (f+j))
def frOk(N f:Nat)(ns:List Nat)(bs:List Blk)(h:Heap):Bool:=ns.all (fun n=>decide (n<f)) && bs.all (fun b=>b.live && notTip b && nmK (fun n=>ns.contains n) b) && ((List.range f).all fun n=>ns.contains n || isNon (at_ h n)) && decide (h.length≤f+N)
def Rs.ltn(n:Nat):Rs→Bool
 | .ret d=>ltB 8 n d
 | .pan d=>ltB 8 n d
def fcE(f0:Nat)(args:List D)(h:Heap)(r:Rs×Heap):M (Rs×Heap):=if(frOk r.2.length f0 (once (args.flatMap D.names)) ((once (args.flatMap D.names)).map (at_ h)) r.2 && r.1.ltn f0 && (List.range f0).all fun m=>ltK f0 (at_ (upd h (usOf f0 (once (args.flatMap D.names)) r.2)) m))=true then .pure (r.1,upd h ((once (args.flatMap D.names)).map fun n=>(n,at_ r.2 n)))else .bad 214
def ownN(f:Nat)(ns:List Nat)(n:Nat):Bool:=ns.contains n || decide (f≤n)
def clH(f:Nat)(ns:List Nat)(h:Heap):Heap:=(List.range h.length).map fun n=>if ownN f ns n=true then at_ h n else .non
def clB(f:Nat)(ns:List Nat)(r:Rs)(h:Heap):Bool:=(match r with
 | .ret d=>nmB (ownN f ns) 8 d
 | .pan d=>nmB (ownN f ns) 8 d) && (List.range h.length).all fun m=>!ownN f ns m || nmK (ownN f ns) (at_ h m)
def fcall(qf:FuncId→Bool)(f0:Nat)(call:Caller):Caller:=fun g args h =>
 if(qf g && decide (h.length≤f0) && args.all fun d=>nmB (fun n=>(once (args.flatMap D.names)).contains n) 8 d)=true then
  (call g args (hpOf f0 (once (args.flatMap D.names)) ((once (args.flatMap D.names)).map (at_ h)))).bind fun q=>if clB f0 (once (args.flatMap D.names)) q.1 q.2=true then fcE f0 args h (q.1,clH f0 (once (args.flatMap D.names)) q.2)else .bad 215
 else call g args h
def ftC:Oper→List D→List Nat:=fun o vs=>match o.op with
 | .call c=>(match c.callee with
  | .value _=>vs.flatMap D.names
  | _=>foot o.op vs)
 | _=>foot o.op vs
noncomputable def planC(P:Program)(pf qf:FuncId→Bool)(call:Caller):Pl:=fun o vs bs f=>match o.op with
 | .call c=>match c.callee,vs with
  | .value _,.fn (.func g) fs cap::xs=>if(pf g && enters P g && (fs++xs++cap).all (ltB 8 0))=true then(call g (fs++xs++cap) []).bind fun r=>(match r.1 with
   | .ret d=>if ltB 8 0 (d.fz P r.2).strp=true then .pure (.ok (d.fz P r.2).strp [])else .bad 206
   | .pan _=>.bad 207)else if(qf g && enters P g && (fs++xs++cap).all fun d=>nmB (fun n=>((D.fn (.func g) fs cap::xs).flatMap D.names).contains n) 8 d)=true then(call g (fs++xs++cap) (hpOf f ((D.fn (.func g) fs cap::xs).flatMap D.names) bs)).bind fun r=>(match r.1 with
   | .ret d=>if frOk 16 f ((D.fn (.func g) fs cap::xs).flatMap D.names) bs r.2=true then .pure (.ok d (usOf f ((D.fn (.func g) fs cap::xs).flatMap D.names) r.2))else if(clB f ((D.fn (.func g) fs cap::xs).flatMap D.names) (.ret d) r.2 && frOk 16 f ((D.fn (.func g) fs cap::xs).flatMap D.names) bs (clH f ((D.fn (.func g) fs cap::xs).flatMap D.names) r.2))=true then .pure (.ok d (usOf f ((D.fn (.func g) fs cap::xs).flatMap D.names) (clH f ((D.fn (.func g) fs cap::xs).flatMap D.names) r.2)))else .bad 212
   | .pan _=>.bad 213)else if(pf g && enters P g && (fs++xs++cap).all (arIn ((D.fn (.func g) fs cap::xs).flatMap D.names) f) && ((fs++xs++cap).map (fz1 P (hpOf f ((D.fn (.func g) fs cap::xs).flatMap D.names) bs))).all (ltB 8 0))=true then(call g ((fs++xs++cap).map (fz1 P (hpOf f ((D.fn (.func g) fs cap::xs).flatMap D.names) bs))) []).bind fun r=>if r.1.scal=true then(match r.1 with
   | .ret d=>.pure (.ok d [])
   | .pan _=>.bad 232)else .bad 233 else .bad 208
  | .value _,_=>.bad 209
  | _,_=>planPl P o vs bs f
 | _=>planPl P o vs bs f
section
variable {P:Program}{E:LId→LSt→M Rd1}{Γ:Cn}{w0:World}{ms:Ms}{h h':Heap}{α α' β:Al}{I I':Gh}{W W':World}{o:Oper}{a a0:Act}{s s':S}{n:Nat}{rn:Option Nat}
theorem Den.strp{d:D}{x:Value}(h:Den (tyOf P) I α d x):Den (tyOf P) I α d.strp x:=by
 unfold D.strp
 split
 ·cases h with
  | tup hl hd =>
   refine .tup (by simpa using hl) fun j d x h1 h2=>?_
   rw [List.getElem?_map]at h1
   obtain⟨y,h3,rfl⟩:=Option.map_eq_some_iff.1 h1
   exact(hd j y x h3 h2).strip
 exact h.strip
theorem EndR.strp{r:Rs}{e:Ending}(h:EndR P I α r e):EndR P I α r.strp e:=by
 cases r with
 | ret d=>cases e<;>first|exact Den.strp (d:=d) h|exact h.elim
 | pan d=>cases e<;>first|exact h.elim|(obtain⟨v,q1,q2⟩:=h;exact⟨v,q1,q2.strp⟩)
def Frz(I:Gh)(n:Nat)(W:World):Gh:=fun b o=>if n≤b then W.cell? ⟨b,o,none⟩else I b o
theorem frz_le{n:Nat}(hg:∀ b o x,I b o=some x→W.cell? ⟨b,o,none⟩=some x):LeI I (Frz I n W):=fun b o x hx=>by
 unfold Frz
 split
 ·exact hg b o x hx
 exact hx
theorem fz1_ok{d:D}{v:Value}{W1:World}(hv:HInv P (tyOf P) W ⟨[],I⟩ h α I' W1)(hd:Den (tyOf P) I' α d v):Den (tyOf P) (Frz I' W.heap.size W1) α (fz1 P h d) v:=by
 have hle:LeI I' (Frz I' W.heap.size W1):=frz_le hv.gh
 have hm:=hd.mono hle (.refl _)
 unfold fz1
 split
 ·rename_i kn n i len
  split
  ·rename_i kn' e w l hn
   split
   ·rename_i ty hty
    split
    ·rename_i hkn
     cases hd with
     | ar hr hw hc hA =>
      rename_i c rg A
      obtain⟨rg',q1,q2,q3⟩:=hv.liv n (by rw [hn];rfl)
      rw [hr]at q1;obtain rfl:=Option.some.inj q1
      rw [hn]at q3
      obtain⟨g1,g2,g3,ty',cs,tt,g4,g5,g6,g7,g8,g9,g10,g11⟩:=q3
      rw [hty]at g4;obtain rfl:=Option.some.inj g4
      have hlen:((l.drop i).take len).length=len:=by
       rw [List.length_take,List.length_drop];omega
      have hb:W.heap.size≤rg.b:=by
       rcases q2 g1 with h1|⟨h1,_⟩
       ·exact h1
       exact absurd h1 (by show ¬ rg.b∈([]:List Nat);simp)
      have hel:∀ d∈l,ElOk ty d∧∀ e∈d.cells,e.pure=true:=fun d hd=>by
       rcases hkn with hkn|hkn
       ·obtain⟨h1,h2⟩:=g10 hkn d hd
        exact⟨h1,List.all_eq_true.1 h2⟩
       obtain⟨h1,h2⟩:=elB_el (List.all_eq_true.1 hkn d hd)
       exact⟨h1,fun e he=>(h2 e he).2⟩
      have hcell:∀ k x,cs[k]?=some x→Frz I' W.heap.size W1 rg.b k=some x:=fun k x hx=>by
       unfold Frz
       rw [if_pos hb,cell_of_row W1 rg.b k cs tt (0,0) g6];exact hx
      have key:Den (tyOf P) (Frz I' W.heap.size W1) α (.sl (kn && kn') e ((l.drop i).take len) .non) (.slice A ((l.drop i).take len).length c):=by
       refine .sl (by rw [hlen];exact hc) trivial fun hne=>?_
       have hpos:0<len:=by
        rcases Nat.eq_zero_or_pos len with h0|h0
        ·rw [h0]at hne;simp at hne
        exact h0
       rw [hA hpos,g5]
       have hsz:∀ q,q<len*ty.n→∃ x,cs[i*ty.n+q]?=some x:=fun q hq=>by
        have:i*ty.n+q<cs.size:=by
         refine Nat.lt_of_lt_of_le ?_ g7.1
         rw [g3]
         have:(i+len)*ty.n≤w*ty.n:=Nat.mul_le_mul_right _ (by rw [← g2];exact hw)
         rw [Nat.add_mul]at this
         omega
        exact⟨_,Array.getElem?_eq_getElem this⟩
       refine .mem (fun q=>(cs[i*ty.n+q]?).getD undef) hty (fun d hd=>(hel d (List.mem_of_mem_drop (List.mem_of_mem_take hd))).1) (fun q hq=>?_) fun k j d e' h1 h2=>?_
       ·rw [hlen]at hq
        obtain⟨x,hx⟩:=hsz q hq
        rw [hcell _ x hx,hx];rfl
       rw [List.getElem?_take]at h1
       split at h1
       ·rw [List.getElem?_drop]at h1
        obtain⟨x,h3,h4,_⟩:=g11.2 (i+k) j d e' h1 h2
        have h3:cs[(i+k)*ty.n+j]?=some x:=h3
        have hpu:=(hel d (List.mem_of_getElem? h1)).2 e' (List.mem_of_getElem? h2)
        show Den _ _ _ e' ((cs[i*ty.n+(k*ty.n+j)]?).getD undef)
        rw [show i*ty.n+(k*ty.n+j)=(i+k)*ty.n+j by rw [Nat.add_mul];omega,h3]
        exact(h4.pure' non hpu).mono hle (.refl _)
       cases h1
      rw [hlen]at key
      exact key
    exact hm
   exact hm
  exact hm
 exact hm
theorem fzP_ok{d:D}{v:Value}{W1:World}(hv:HInv P (tyOf P) W ⟨[],I⟩ h α I' W1)(hd:Den (tyOf P) I' α d v):Den (tyOf P) (Frz I' W.heap.size W1) α (fzP h d) v:=by
 have hle:LeI I' (Frz I' W.heap.size W1):=frz_le hv.gh
 have hm:=hd.mono hle (.refl _)
 unfold fzP
 split
 ·rename_i n
  split
  ·rename_i kn t d hn
   split
   ·rename_i hpu
    cases hd with
    | p hr =>
     rename_i rg
     obtain⟨rg',q1,q2,q3⟩:=hv.liv n (by rw [hn];rfl)
     rw [hr]at q1;obtain rfl:=Option.some.inj q1
     rw [hn]at q3
     obtain⟨g1,g2,g3,ty',cs,tt,g4,g5,g6,g7,g8,g9,g10,g11⟩:=q3
     have hb:W.heap.size≤rg.b:=by
      rcases q2 g1 with h1|⟨h1,_⟩
      ·exact h1
      exact absurd h1 (by show ¬ rg.b∈([]:List Nat);simp)
     have hlen:=g11.1 0 d rfl
     have hget:∀ j e,d.cells[j]?=some e→∃ x,cs[j]?=some x∧Den (tyOf P) I' α e x:=fun j e hj=>by
      obtain⟨x,h1,h2,_⟩:=g11.2 0 j d e rfl hj
      exact⟨x,by simpa using h1,h2⟩
     rw [show(0:Nat)*rg.s+0=0 by omega]
     refine .ep (fun j=>(cs[j]?).getD undef) (fun j hj=>?_) fun j e hj=>?_
     ·obtain⟨x,h1,_⟩:=hget j _ (List.getElem?_eq_getElem hj)
      rw [h1]
      unfold Frz
      rw [if_pos hb,cell_of_row W1 rg.b (0+j) cs tt (0,0) g6,Nat.zero_add,h1]
      rfl
     obtain⟨x,h1,h2⟩:=hget j e hj
     show Den _ _ _ e ((cs[j]?).getD undef)
     rw [h1]
     exact(h2.pure' non (List.all_eq_true.1 hpu e (List.mem_of_getElem? hj))).mono hle (.refl _)
   exact hm
  exact hm
 exact hm
theorem fz2_ok{d:D}{v:Value}{W1:World}(hv:HInv P (tyOf P) W ⟨[],I⟩ h α I' W1)(hd:Den (tyOf P) I' α d v):Den (tyOf P) (Frz I' W.heap.size W1) α (fz2 P h d) v:=by
 unfold fz2
 split
 ·cases hd with
  | agg hl hd =>
   refine .agg (by simpa using hl) fun j d x h1 h2=>?_
   rw [List.getElem?_map]at h1
   obtain⟨y,h3,rfl⟩:=Option.map_eq_some_iff.1 h1
   exact fz1_ok hv (hd j y x h3 h2)
 ·cases hd with
  | fn ha hb hx hy =>
   refine .fn ha (by simpa using hb) (fun j d v g1 g2=>(hx j d v g1 g2).mono (frz_le hv.gh) (.refl _)) fun j d v g1 g2=>?_
   rw [List.getElem?_map]at g1
   obtain⟨y,h3,rfl⟩:=Option.map_eq_some_iff.1 g1
   exact fzP_ok hv (hy j y v h3 g2)
 exact fz1_ok hv hd
theorem fz_ok{d:D}{v:Value}{W1:World}(hv:HInv P (tyOf P) W ⟨[],I⟩ h α I' W1)(hd:Den (tyOf P) I' α d v):Den (tyOf P) (Frz I' W.heap.size W1) α (d.fz P h) v:=by
 unfold D.fz
 split
 ·cases hd with
  | tup hl hd =>
   refine .tup (by simpa using hl) fun j d x h1 h2=>?_
   rw [List.getElem?_map]at h1
   obtain⟨y,h3,rfl⟩:=Option.map_eq_some_iff.1 h1
   exact fz2_ok hv (hd j y x h3 h2)
 exact fz2_ok hv hd
theorem CallSd.alone{f:FuncId}{args:List D}{r r':Rs}{h0:Heap}(hc:CallSd P f args [] r h0)(ha:args.all (ltB 8 0)=true)(hφ:∀ {I α e},EndR P I α (r.fz P h0) e→EndR P I α r' e)(hr:r'.lt=true)(h:Heap):CallSd P f args h r' h:=by
 intro w0 ms α I W xs hi hl hx
 have hn0:LeA (α.upto 0) non:=fun m r hm=>by unfold Al.upto at hm;rw [if_neg (by omega)]at hm;cases hm
 have hin:HInv P (tyOf P) W ⟨[],I⟩ [] non I W:=⟨⟨rfl,rfl,rfl,Nat.le_refl _,fun _ _ _=>rfl⟩,(fun m r hm=>nomatch hm),(fun m hm=>by simp [at_,Blk.live]at hm),(fun m q r r' _ hm=>by simp [at_,Blk.live]at hm),hi.gh,fun b q _ _ hg=>hg⟩
 refine(hc W ⟨[],I⟩ non I W xs hin hl fun j d x g1 g2=>((hx j d x g1 g2).lt 8 (List.all_eq_true.1 ha d (List.mem_of_getElem? g1))).mono (.refl _) hn0).mono fun e W' hh=>?_
 obtain⟨α1,I1,_,hI,hv,he⟩:=hh
 have hle:LeI I1 (Frz I1 W.heap.size W'):=frz_le hv.gh
 have hz:EndR P (Frz I1 W.heap.size W') α1 (r.fz P h0) e:=by
  cases r with
  | ret d=>cases e<;>first|exact fz_ok hv he|exact he.elim
  | pan d=>cases e<;>first|exact he.elim|(obtain⟨v,q1,q2⟩:=he;exact⟨v,q1,q2.mono hle (.refl _)⟩)
 replace he:=hφ hz
 have hlt:∀ {d v},ltB 8 0 d=true→Den (tyOf P) (Frz I1 W.heap.size W') α1 d v→Den (tyOf P) (Frz I1 W.heap.size W') α d v:=fun h1 h2=>(h2.lt 8 h1).mono (.refl _) fun m r hm=>by unfold Al.upto at hm;rw [if_neg (by omega)]at hm;cases hm
 have hold:∀ b o,b<W.heap.size→I b o=none→Frz I1 W.heap.size W' b o=none:=fun b o hb hq=>by
  unfold Frz
  rw [if_neg (by omega)]
  exact hv.g0 b o hb (fun h=>nomatch h) hq
 refine⟨α,Frz I1 W.heap.size W',.refl _,hI.trans hle,?_,?_⟩
 ·refine hi.step (X:=[]) ⟨hv.old.os,hv.old.tape,hv.old.output,hv.old.size,fun b hb _=>hv.old.block b hb (fun h=>nomatch h)⟩ (fun b hb=>nomatch hb) (hI.trans hle) (fun b q hb _ hq=>hold b q (Nat.lt_of_lt_of_le hb hi.old.size) hq) (.refl _) hi.dom (fun b q x hx=>.inr ?_) fun m hm=>.inl ⟨rfl,fun r hr hvr=>⟨(fun h=>nomatch h),fun q hq=>hold r.b q ?_ hq⟩⟩
  ·unfold Frz at hx
   split at hx
   ·exact hx
   exact hv.gh b q x hx
  obtain⟨r',q1,_,q2⟩:=hi.liv m hm
  rw [hr]at q1;obtain rfl:=Option.some.inj q1
  exact q2.lt hm hvr
 cases r' with
 | ret d=>cases e<;>first|exact hlt hr he|exact he.elim
 | pan d=>cases e<;>first|exact he.elim|(obtain⟨v,q1,q2⟩:=he;exact⟨v,q1,hlt hr q2⟩)
theorem all_le(hg:∀ b o x,I b o=some x→W.cell? ⟨b,o,none⟩=some x):LeI I (All W):=fun b o x hx=>hg b o x hx
theorem fz1_all{d:D}{v:Value}(hv:HInv P (tyOf P) w0 ms h α I W)(hd:Den (tyOf P) I α d v):Den (tyOf P) (All W) α (fz1 P h d) v:=by
 have hle:LeI I (All W):=all_le hv.gh
 have hm:=hd.mono hle (.refl _)
 unfold fz1
 split
 ·rename_i kn n i len
  split
  ·rename_i kn' e w l hn
   split
   ·rename_i ty hty
    split
    ·rename_i hkn
     cases hd with
     | ar hr hw hc hA =>
      rename_i c rg A
      obtain⟨rg',q1,q2,q3⟩:=hv.liv n (by rw [hn];rfl)
      rw [hr]at q1;obtain rfl:=Option.some.inj q1
      rw [hn]at q3
      obtain⟨g1,g2,g3,ty',cs,tt,g4,g5,g6,g7,g8,g9,g10,g11⟩:=q3
      rw [hty]at g4;obtain rfl:=Option.some.inj g4
      have hlen:((l.drop i).take len).length=len:=by
       rw [List.length_take,List.length_drop];omega
      have hel:∀ d∈l,ElOk ty d∧∀ e∈d.cells,e.pure=true:=fun d hd=>by
       rcases hkn with hkn|hkn
       ·obtain⟨h1,h2⟩:=g10 hkn d hd
        exact⟨h1,List.all_eq_true.1 h2⟩
       obtain⟨h1,h2⟩:=elB_el (List.all_eq_true.1 hkn d hd)
       exact⟨h1,fun e he=>(h2 e he).2⟩
      have hcell:∀ k x,cs[k]?=some x→All W rg.b k=some x:=fun k x hx=>by
       unfold All
       rw [cell_of_row W rg.b k cs tt (0,0) g6];exact hx
      have key:Den (tyOf P) (All W) α (.sl (kn && kn') e ((l.drop i).take len) .non) (.slice A ((l.drop i).take len).length c):=by
       refine .sl (by rw [hlen];exact hc) trivial fun hne=>?_
       have hpos:0<len:=by
        rcases Nat.eq_zero_or_pos len with h0|h0
        ·rw [h0]at hne;simp at hne
        exact h0
       rw [hA hpos,g5]
       have hsz:∀ q,q<len*ty.n→∃ x,cs[i*ty.n+q]?=some x:=fun q hq=>by
        have:i*ty.n+q<cs.size:=by
         refine Nat.lt_of_lt_of_le ?_ g7.1
         rw [g3]
         have:(i+len)*ty.n≤w*ty.n:=Nat.mul_le_mul_right _ (by rw [← g2];exact hw)
         rw [Nat.add_mul]at this
         omega
        exact⟨_,Array.getElem?_eq_getElem this⟩
       refine .mem (fun q=>(cs[i*ty.n+q]?).getD undef) hty (fun d hd=>(hel d (List.mem_of_mem_drop (List.mem_of_mem_take hd))).1) (fun q hq=>?_) fun k j d e' h1 h2=>?_
       ·rw [hlen]at hq
        obtain⟨x,hx⟩:=hsz q hq
        rw [hcell _ x hx,hx];rfl
       rw [List.getElem?_take]at h1
       split at h1
       ·rw [List.getElem?_drop]at h1
        obtain⟨x,h3,h4,_⟩:=g11.2 (i+k) j d e' h1 h2
        have h3:cs[(i+k)*ty.n+j]?=some x:=h3
        have hpu:=(hel d (List.mem_of_getElem? h1)).2 e' (List.mem_of_getElem? h2)
        show Den _ _ _ e' ((cs[i*ty.n+(k*ty.n+j)]?).getD undef)
        rw [show i*ty.n+(k*ty.n+j)=(i+k)*ty.n+j by rw [Nat.add_mul];omega,h3]
        exact(h4.pure' non hpu).mono hle (.refl _)
       cases h1
      rw [hlen]at key
      exact key
    exact hm
   exact hm
  exact hm
 exact hm
theorem sc1_den{d:D}{v:Value}(hs:d.sc1=true)(hd:Den (tyOf P) I α d v):Den (tyOf P) I' α' d v:=by
 cases d<;>first|cases hs;done|(cases hd with|k h=>exact .k h)|(cases hd with|v h=>exact .v h)
theorem scal_den{d:D}{v:Value}(hs:d.scal=true)(hd:Den (tyOf P) I α d v):Den (tyOf P) I' α' d v:=by
 unfold D.scal at hs
 split at hs
 ·cases hd with
  | tup hl hd=>exact .tup hl fun j d x h1 h2=>sc1_den (List.all_eq_true.1 hs d (List.mem_of_getElem? h1)) (hd j d x h1 h2)
 exact sc1_den hs hd
theorem CallSd.read{f:FuncId}{args:List D}{r:Rs}{h0:Heap}(hc:CallSd P f (args.map (fz1 P h)) [] r h0)(ha:(args.map (fz1 P h)).all (ltB 8 0)=true)(hr:r.scal=true):CallSd P f args h r h:=by
 intro w0 ms α I W xs hi hl hx
 have hn0:LeA (α.upto 0) non:=fun m r hm=>by unfold Al.upto at hm;rw [if_neg (by omega)]at hm;cases hm
 have hin:HInv P (tyOf P) W ⟨[],All W⟩ [] non (All W) W:=⟨⟨rfl,rfl,rfl,Nat.le_refl _,fun _ _ _=>rfl⟩,(fun m r hm=>nomatch hm),(fun m hm=>by simp [at_,Blk.live]at hm),(fun m q r r' _ hm=>by simp [at_,Blk.live]at hm),fun _ _ _ h=>h,fun b q _ _ hg=>hg⟩
 refine(hc W ⟨[],All W⟩ non (All W) W xs hin (by rw [List.length_map];exact hl) fun j d x g1 g2=>?_).mono fun e W' hh=>?_
 ·have hlt:=List.all_eq_true.1 ha d (List.mem_of_getElem? g1)
  rw [List.getElem?_map]at g1
  obtain⟨d0,g3,rfl⟩:=Option.map_eq_some_iff.1 g1
  exact((fz1_all hi (hx j d0 x g3 g2)).lt 8 hlt).mono (.refl _) hn0
 obtain⟨α1,I1,_,hI,hv,he⟩:=hh
 refine⟨α,I,.refl _,.refl _,?_,?_⟩
 ·refine hi.step (X:=[]) ⟨hv.old.os,hv.old.tape,hv.old.output,hv.old.size,fun b hb _=>hv.old.block b hb (fun h=>nomatch h)⟩ (fun b hb=>nomatch hb) (.refl _) (fun b q hb _ hq=>hq) (.refl _) hi.dom (fun b q x hx=>.inr ?_) fun m hm=>.inl ⟨rfl,fun r hr hvr=>⟨(fun h=>nomatch h),fun q hq=>hq⟩⟩
  exact hv.gh b q x (hI b q x (hi.gh b q x hx))
 cases r with
 | ret d=>cases e<;>first|exact scal_den hr he|exact he.elim
 | pan d=>cases hr
theorem pcall_ok{pf:FuncId→Bool}{call:Caller}(hcall:∀ g args h r h',Ev E Γ (Rs×Heap) (call g args h) (r,h')→CallSd P g args h r h'):∀ g args h r h',Ev E Γ (Rs×Heap) (pcall P pf call g args h) (r,h')→CallSd P g args h r h':=by
 intro g args h r h' he
 unfold pcall at he
 split at he
 ·rename_i hc
  simp only [Bool.and_eq_true]at hc
  obtain⟨⟨r1,h1⟩,h2,h3⟩:=ev_bind he
  dsimp only at h3
  split at h3
  ·rename_i hlt
   have:=ev_pure_eq h3
   cases this
   exact(hcall g args [] _ h1 h2).alone hc.2 EndR.strp hlt h
  cases h3
 split at he
 ·rename_i hc
  simp only [Bool.and_eq_true]at hc
  obtain⟨⟨r1,h1⟩,h2,h3⟩:=ev_bind he
  dsimp only at h3
  split at h3
  ·rename_i hs
   have:=ev_pure_eq h3
   cases this
   exact(hcall g _ [] _ h1 h2).read hc.2 hs
  cases h3
 exact hcall g args h r h' he
theorem wp_callB{K:Act→World→Prop}{Q:Exit→Act→World→Prop}{f:Operand}{args:Array Operand}{ats:Array TypeId}{g:FuncId}{vs fs cap:Array Value}(ho:o.op=.call { callee:=.value f,args,argTypes:=ats }) (hf:a.eval f=.func (.func g) fs cap) (hargs:fs++args.map a.eval++cap=vs)
 (hc:(callFunc g vs).run P W=.ok (.enter g vs) W) {R:Ending→World→Prop} (h:Calls P g vs W R) (hk:∀ v W',R (.returned v) W'→K (a.put o.dst v) W') (hq:∀ c W',R (.panicked c) W'→Q (.panic c) a W') (ho':∀ W',¬ R .outgrown W'):o.wp P a W K Q:=by
 subst hargs
 unfold Oper.wp execOp
 simp only [ho,resolve,Deferred.ofValue,hf,invoke,Sem.run_bind,Sem.run_pure,Result.andThen_ok,hc,Oper.upon]
 refine h.mono fun e W' hR=>?_
 cases e with
 | returned v=>exact hk v W' hR
 | panicked c=>exact hq c W' hR
 | outgrown=>exact absurd hR (ho' W')
def YlSd(P:Program)(n:Nat)(args:List D)(h:Heap)(b:Bool)(h':Heap):Prop :=
 ∀ w0 ms α I W r q (o:Oper) (a:Act) (f:Operand) (xs:Array Operand) (ats:Array TypeId),HInv P (tyOf P) w0 ms h α I W→α n=some r→o.op=.call { callee:=.value f,args:=xs,argTypes:=ats }→a.eval f=.func (.yield r.b) #[] #[] →
  args.length=xs.size→(∀ (j:Nat) d x,args[j]?=some d→xs[j]?=some x→Den (tyOf P) I α d (a.eval x))→∀ (K:Act→World→Prop) (Q:Exit→Act→World→Prop),(∀ α' I' W',LeA α α'→LeI I I'→HInv P (tyOf P) w0 ms h' α' I' W'→K (a.put o.dst (.bool b)) W')→o.wpIn (FW q) 0 P a W K Q
theorem args_den{xs:Array Operand}{fs cap:List D}{x y:Array Value}(hi:Inv P w0 ms s α I a W)(hla:fs.length=x.size)(hxx:∀ (j:Nat) d v,fs[j]?=some d→x[j]?=some v→Den (tyOf P) I α d v)(hyy:∀ (j:Nat) d v,cap[j]?=some d→y[j]?=some v→Den (tyOf P) I α d v) :
 ∀ (j:Nat) d v,(fs++xs.toList.map s.opd++cap)[j]?=some d→(x++xs.map a.eval++y)[j]?=some v→Den (tyOf P) I α d v:=by
 intro j d v g1 g2
 by_cases hj:j<fs.length
 ·rw [List.append_assoc,List.getElem?_append_left hj]at g1
  rw [Array.append_assoc,Array.getElem?_append_left (by omega)]at g2
  exact hxx j d v g1 g2
 rw [List.append_assoc,List.getElem?_append_right (by omega)]at g1
 rw [Array.append_assoc,Array.getElem?_append_right (by omega),← hla]at g2
 by_cases hj2:j-fs.length<xs.size
 ·rw [List.getElem?_append_left (by simpa using hj2),List.getElem?_map]at g1
  rw [Array.getElem?_append_left (by simpa using hj2),Array.getElem?_map]at g2
  obtain⟨q,hq,rfl⟩:=Option.map_eq_some_iff.1 g1
  have hq':xs[j-fs.length]?=some q:=by simpa using hq
  rw [hq']at g2
  obtain rfl:=Option.some.inj g2
  exact hi.opd q
 rw [List.getElem?_append_right (by simp;omega)]at g1
 rw [Array.getElem?_append_right (by simp;omega)]at g2
 simp only [List.length_map,Array.length_toList]at g1
 simp only [Array.size_map]at g2
 exact hyy _ d v g1 g2
theorem Inv.heap(hi:Inv P w0 ms s α I a W)(hI:LeI I I')(ha:LeA α α')(hv:HInv P (tyOf P) w0 ms h α' I' W'):Inv P w0 ms ({ s with h:=h }:S) α' I' a W' :=
 ⟨hv,hi.tn,fun t d x g1 g2=>(hi.ts t d x g1 g2).mono hI ha,hi.dn,fun j f d g1 g2=>(hi.df j f d g1 g2).mono hI ha⟩
theorem opC_ok{call:Caller}{yl:Yl}{dfs:Bool}(hcall:∀ g args h r h',Ev E Γ (Rs×Heap) (call g args h) (r,h')→CallSd P g args h r h')(hyl:∀ n args h b h',Ev E Γ (Bool×Heap) (yl n args h) (b,h')→YlSd P n args h b h')(hrn:dfs=true→rn=none){e:Ex}(he:Ev E Γ (Ex×S) (opC P call yl dfs s o) (e,s')):OpSd P rn o s e s':=by
 unfold opC at he
 split at he
 ·rename_i c hop
  obtain⟨cal,ar,at'⟩:=c
  split at he
  ·rename_i f hcal
   simp only at hcal
   subst hcal
   split at he
   ·rename_i g fs cap hfd
    split at he
    ·rename_i hen
     obtain⟨⟨r,h1⟩,h2,h3⟩:=ev_bind he
     intro w0 ms α I a W hi K Q hK hQ
     refine operIn_of_wp (fun c' hc'=>by rw [hop]at hc';cases hc') ?_
     have hD:=hi.opd f
     rw [hfd]at hD
     generalize hx:a.eval f=x at hD
     cases hD with
     | @fn _ _ _ _ x y hla hlb hxx hyy =>
      refine wp_callB hop hx rfl (enters_run hen _ _) (hcall g _ s.h r h1 h2 w0 ms α I W _ hi.hv (by simp [hla,hlb]) (args_den hi hla hxx hyy)) (fun v W' hh=>?_) (fun c W' hh=>?_) fun W' hh=>?_
      ·obtain⟨α',I',q1,q2,q3,q4⟩:=hh
       cases r with
       | ret d =>
        have h4:=ev_pure_eq h3
        cases h4
        exact hK _ _ ⟨α',I',q1,q2,trivial,(hi.heap q2 q1 q3).put q4 o.dst⟩ rfl
       | pan d=>exact q4.elim
      ·obtain⟨α',I',q1,q2,q3,q4⟩:=hh
       cases r with
       | ret d=>exact q4.elim
       | pan d =>
        have h4:=ev_pure_eq h3
        cases h4
        exact hQ _ _ _ ⟨α',I',q1,q2,q4,hi.heap q2 q1 q3⟩ (fun h=>nomatch h)
      obtain⟨α',I',q1,q2,q3,q4⟩:=hh
      cases r<;>exact q4.elim
    cases he
   ·rename_i n hfd
    obtain⟨⟨b,h1⟩,h2,h3⟩:=ev_bind he
    have h4:=ev_pure_eq h3
    cases h4
    intro w0 ms α I a W hi K Q hK hQ
    have hD:=hi.opd f
    rw [hfd]at hD
    generalize hx:a.eval f=x at hD
    cases hD with
    | y hr =>
     exact hyl n _ s.h b h1 h2 w0 ms α I W _ rn o a f ar at' hi.hv hr hop hx (by simp) (fun j d x g1 g2=>by
      rw [List.getElem?_map]at g1
      obtain⟨q,hq,rfl⟩:=Option.map_eq_some_iff.1 g1
      have hq':ar[j]?=some q:=by simpa using hq
      rw [hq']at g2
      obtain rfl:=Option.some.inj g2
      exact hi.opd q) K Q fun α' I' W' q1 q2 q3=>hK _ _ ⟨α',I',q1,q2,trivial,(hi.heap q2 q1 q3).put (.k rfl) o.dst⟩ rfl
   cases he
  exact opP_ok he
 ·rename_i c hop
  obtain⟨cal,ar,at'⟩:=c
  split at he
  ·rename_i f hcal
   simp only at hcal
   subst hcal
   split at he
   ·rename_i fn fs cap hfd
    split at he
    ·rename_i hc
     simp only [Bool.and_eq_true,Array.isEmpty_iff]at hc
     obtain⟨hd,har⟩:=hc
     subst har
     have hrn:=hrn hd
     subst hrn
     have h4:=ev_pure_eq he
     cases h4
     intro w0 ms α I a W hi K Q hK hQ
     have hD:=hi.opd f
     rw [hfd]at hD
     generalize hx:a.eval f=x at hD
     cases hD with
     | @fn _ _ _ _ x y hla hlb hxx hyy =>
      refine⟨fun _ _=>trivial,?_⟩
      rw [show(FW none).round=none from rfl,Oper.semAt_none]
      unfold execOp
      simp only [hop,resolve,Deferred.ofValue,hx,Sem.run_bind,Sem.run_pure,Result.andThen_ok,Oper.uponIn_defer,List.map_toArray,List.map_nil,Array.append_empty]
      have hin:Inv P w0 ms ({ s with df:=.fn (.fn fn fs cap)::s.df }:S) α I { a with defers:=({ target:=.fn fn y,args:=x }:Deferred)::a.defers } W:=⟨hi.hv,hi.tn,hi.ts,by simp [hi.dn],fun j f' d g1 g2=>by
       cases j with
       | zero =>
        obtain rfl:Df.fn (.fn fn fs cap)=f':=by simpa using g1
        obtain rfl:({ target:=.fn fn y,args:=x }:Deferred)=d:=by simpa using g2
        exact⟨fn,x,y,rfl,.fn hla hlb hxx hyy⟩
       | succ j=>exact hi.df j f' d (by simpa using g1) (by simpa using g2)⟩
      exact hK _ _ ⟨α,I,.refl _,.refl _,trivial,hin.put .any o.dst⟩ rfl
    cases he
   cases he
  cases he
 exact opP_ok he
theorem mem_once'{x:Nat}:∀ {l:List Nat},x∈l→x∈once l
 | [],h=>h
 | a::l,h=>by
  unfold once
  split
  ·rename_i hc
   rcases List.mem_cons.1 h with rfl|h
   ·exact mem_once' (by simpa using hc)
   exact mem_once' h
  rcases List.mem_cons.1 h with rfl|h
  ·exact List.mem_cons_self ..
  exact List.mem_cons_of_mem _ (mem_once' h)
theorem upd_at:∀ {l:List (Nat×Blk)}{h:Heap}{n:Nat}{b:Blk},(∀ m c,(m,c)∈l→m=n→c=b)→n∈l.map (·.1)→at_ (upd h l) n=b
 | (m,c)::l,h,n,b,hl,hn=>by
  show at_ (upd (put h m c) l) n=b
  by_cases h2:n∈l.map (·.1)
  ·exact upd_at (fun m c hm=>hl m c (List.mem_cons_of_mem _ hm)) h2
  rw [at_upd_no h2,at_put]
  have hmn:n=m:=by simpa [h2]using hn
  rw [if_pos hmn]
  exact hl m c (List.mem_cons_self ..) hmn.symm
 | [],_,_,_,_,hn=>by simp at hn
theorem us_at{f:Nat}{ns:List Nat}{h h1:Heap}{n:Nat}(hn:n∈ns∨(f≤n∧n<h1.length)):at_ (upd h (usOf f ns h1)) n=at_ h1 n:=by
 refine upd_at (fun m c hm e=>?_) ?_
 ·unfold usOf at hm
  rcases List.mem_append.1 hm with hm|hm
  ·obtain⟨k,_,hk⟩:=List.mem_map.1 hm
   cases hk;rw [e]
  obtain⟨k,_,hk⟩:=List.mem_map.1 hm
  cases hk;rw [e]
 unfold usOf
 rw [List.map_append,List.mem_append,List.map_map,List.map_map]
 rcases hn with hn|⟨h2,h3⟩
 ·exact .inl (List.mem_map.2 ⟨n,mem_once' hn,rfl⟩)
 exact .inr (List.mem_map.2 ⟨n-f,by simp;omega,by simp;omega⟩)
theorem us_no{f:Nat}{ns:List Nat}{h h1:Heap}{n:Nat}(hn:n∉ns)(hn2:¬ (f≤n∧n<h1.length)):at_ (upd h (usOf f ns h1)) n=at_ h n:=by
 refine at_upd_no fun hm=>?_
 unfold usOf at hm
 rw [List.map_append,List.mem_append,List.map_map,List.map_map]at hm
 rcases hm with hm|hm
 ·obtain⟨k,h1,h2⟩:=List.mem_map.1 hm
  have h2:k=n:=h2
  exact hn (h2▸mem_once h1)
 obtain⟨k,e1,e2⟩:=List.mem_map.1 hm
 have e2:f+k=n:=e2
 have e1:k<h1.length-f:=by simpa using e1
 exact hn2 ⟨by omega,by omega⟩
theorem at_hpOf{f:Nat}{ns:List Nat}{n:Nat}:at_ (hpOf f ns (ns.map (at_ h))) n=if n∈ns∧n<f then at_ h n else .non:=by
 unfold hpOf
 rw [at_range]
 by_cases hf:n<f
 ·rw [if_pos hf]
  cases hi:ns.idxOf? n with
  | none =>
   rw [List.idxOf?_eq_none_iff]at hi
   rw [if_neg (fun h=>hi h.1)]
  | some i =>
   have h1:ns[i]?=some n:=by
    have:=List.findIdx?_eq_some_iff_getElem.1 hi
    obtain⟨h1,h2,_⟩:=this
    rw [List.getElem?_eq_getElem h1]
    simpa using h2
   rw [if_pos ⟨List.mem_of_getElem? h1,hf⟩]
   simp [List.getD_eq_getElem?_getD,List.getElem?_map,h1]
 rw [if_neg hf,if_neg (fun h=>hf h.2)]
theorem Rep.notV{r:Reg}{B:Blk}(hr:Rep P (tyOf P) I α W r B)(hl:B.live=true)(ht:notTip B=true):r.v=false:=by
 cases B with
 | non=>cases hl
 | dead=>cases hl
 | tip t=>cases ht
 | _=>exact hr.1
theorem CallSd.frame{g:FuncId}{args:List D}{r:Rs}{N f:Nat}{ns:List Nat}{h1:Heap}(hc:CallSd P g args (hpOf f ns (ns.map (at_ h))) r h1)(hok:frOk N f ns (ns.map (at_ h)) h1=true)(hfr:∀ j,j<N→at_ h (f+j)=.non)(ha:args.all (fun d=>nmB (fun n=>ns.contains n) 8 d)=true){xs:Array Value}
 (hi:HInv P (tyOf P) w0 ms h α I W) (hl:args.length=xs.size) (hx:∀ (j:Nat) d x,args[j]?=some d→xs[j]?=some x→Den (tyOf P) I α d x):Calls P g xs W fun e W'=>∃ α' I',LeA α α'∧LeI I I'∧HInv P (tyOf P) w0 ms (upd h (usOf f ns h1)) α' I' W'∧EndR P I' α' r e:=by
 simp only [frOk,Bool.and_eq_true]at hok
 obtain⟨⟨⟨k1,k2⟩,k3⟩,k4⟩:=hok
 have hlt:∀ n∈ns,n<f:=fun n hn=>by simpa using List.all_eq_true.1 k1 n hn
 have hlv:∀ n∈ns,((at_ h n).live=true∧notTip (at_ h n)=true)∧nmK (fun n=>ns.contains n) (at_ h n)=true:=fun n hn=>by
  have:=List.all_eq_true.1 k2 (at_ h n) (List.mem_map_of_mem hn)
  simpa only [Bool.and_eq_true]using this
 have hlen:h1.length≤f+N:=by simpa using k4
 have hnon:∀ n,n<f→n∉ns→at_ h1 n=.non:=fun n hn hns=>by
  have:=List.all_eq_true.1 k3 n (by simpa using hn)
  have hcn:ns.contains n=false:=by simpa using hns
  rw [hcn,Bool.false_or]at this
  revert this
  cases at_ h1 n<;>intro h<;>first|rfl|cases h
 have h0:∀ n,at_ (hpOf f ns (ns.map (at_ h))) n=if n∈ns then at_ h n else .non:=fun n=>by
  rw [at_hpOf]
  by_cases hn:n∈ns
  ·rw [if_pos ⟨hn,hlt n hn⟩,if_pos hn]
  rw [if_neg (fun h=>hn h.1),if_neg hn]
 have hreg:∀ n∈ns,∃ rg,α n=some rg∧(rg.v=false→w0.heap.size≤rg.b∨rg.b∈ms)∧Rep P (tyOf P) I α W rg (at_ h n):=fun n hn=>by
  obtain⟨rg,q1,q2,q3⟩:=hi.liv n (hlv n hn).1.1
  exact⟨rg,q1,fun hv=>(q2 hv).imp id And.left,q3⟩
 let bl:List Nat:=ns.filterMap fun n=>(α n).map (·.b)
 have hbl:∀ n∈ns,∀ rg,α n=some rg→rg.b∈bl:=fun n hn rg hr=>List.mem_filterMap.2 ⟨n,hn,by rw [hr];rfl⟩
 have hbl':∀ b∈bl,∃ n∈ns,∃ rg,α n=some rg∧rg.b=b:=fun b hb=>by
  obtain⟨n,hn,q⟩:=List.mem_filterMap.1 hb
  obtain⟨rg,q1,q2⟩:=Option.map_eq_some_iff.1 q
  exact⟨n,hn,rg,q1,q2⟩
 have hon:∀ n,α.on (fun n=>ns.contains n) n=if n∈ns then α n else none:=fun n=>by
  unfold Al.on
  by_cases hn:n∈ns
  ·rw [if_pos hn,if_pos (by simpa using hn)]
  rw [if_neg hn,if_neg (by simpa using hn)]
 have hin:HInv P (tyOf P) W ⟨bl,I⟩ (hpOf f ns (ns.map (at_ h))) (α.on fun n=>ns.contains n) I W:=by
  refine⟨⟨rfl,rfl,rfl,Nat.le_refl _,fun _ _ _=>rfl⟩,fun n rg hr=>?_,fun n hn=>?_,fun n m r1 r2 hnm q1 q2 q3 q4=>?_,hi.gh,fun b q _ _ hg=>hg⟩
  ·rw [hon]at hr
   split at hr
   ·rename_i hns
    rw [h0,if_pos hns];exact hi.dom n rg hr
   cases hr
  ·rw [h0]at hn ⊢
   split at hn
   ·rename_i hns
    rw [if_pos hns]
    obtain⟨rg,q1,q2,q3⟩:=hreg n hns
    refine⟨rg,by rw [hon,if_pos hns];exact q1,fun hv=>.inr ⟨hbl n hns rg q1,fun t ht=>?_⟩,q3.nmk (hlv n hns).2⟩
    have:=(hlv n hns).1.2
    rw [ht]at this;cases this
   cases hn
  rw [h0]at q1 q2
  rw [hon]at q3 q4
  split at q1
  ·rename_i h5
   split at q2
   ·rename_i h6
    rw [if_pos h5]at q3
    rw [if_pos h6]at q4
    exact hi.sep n m r1 r2 hnm q1 q2 q3 q4
   cases q2
  cases q1
 refine(hc W ⟨bl,I⟩ _ I W xs hin hl fun j d x g1 g2=>(hx j d x g1 g2).nm 8 (List.all_eq_true.1 ha d (List.mem_of_getElem? g1))).mono fun e W' hh=>?_
 obtain⟨α1,I1,hle,hI,hv,he⟩:=hh
 let β:Al:=fun n=>if f≤n∧n<f+N then α1 n else α n
 have hβn:∀ n,n<f→β n=α n:=fun n hn=>if_neg (by omega)
 have hβf:∀ n,f≤n→n<f+N→β n=α1 n:=fun n h1 h2=>if_pos ⟨h1,h2⟩
 have hfre:∀ n,f≤n→n<f+N→α n=none:=fun n h1 h2=>hi.fresh (by have:=hfr (n-f) (by omega);rwa [show f+(n-f)=n by omega]at this)
 have hle1:LeA α β:=fun n rg hr=>by
  by_cases h2:f≤n∧n<f+N
  ·rw [hfre n h2.1 h2.2]at hr;cases hr
  show(if f≤n∧n<f+N then α1 n else α n)=_
  rw [if_neg h2];exact hr
 have hα1:∀ n∈ns,∀ rg,α n=some rg→α1 n=some rg:=fun n hn rg hr=>hle n rg (by rw [hon,if_pos hn];exact hr)
 have hle2:LeA α1 β:=fun n rg hr=>by
  have hd:=hv.dom n rg hr
  by_cases hn:n<f
  ·by_cases hns:n∈ns
   ·obtain⟨rg',q1,_⟩:=hreg n hns
    have:=hα1 n hns rg' q1
    rw [hr]at this;obtain rfl:=Option.some.inj this
    rw [hβn n hn];exact q1
   exact absurd (hnon n hn hns) hd
  have:n<h1.length:=by
   by_cases h2:n<h1.length
   ·exact h2
   exact absurd (by simp [at_,List.getD_eq_getElem?_getD,List.getElem?_eq_none (Nat.le_of_not_lt h2)]) hd
  rw [hβf n (by omega) (by omega)];exact hr
 have hwlt:∀ {n:Nat} {rg:Reg},(at_ h n).live=true→α n=some rg→rg.v=false→rg.b<W.heap.size:=fun {n rg} h2 h3 h4=>by
  obtain⟨r',q1,_,q2⟩:=hi.liv n h2
  rw [h3]at q1;obtain rfl:=Option.some.inj q1
  exact q2.lt h2 h4
 refine⟨β,I1,hle1,hI,?_,?_⟩
 ·have hbw:∀ b∈bl,w0.heap.size≤b∨b∈ms:=fun b hb=>by
   obtain⟨n,hn,rg,q1,rfl⟩:=hbl' b hb
   obtain⟨rg',q2,q3,q4⟩:=hreg n hn
   rw [q1]at q2;obtain rfl:=Option.some.inj q2
   cases hvv:rg.v with
   | false=>exact q3 hvv
   | true =>
    exfalso
    have:=q4.notV (hlv n hn).1.1 (hlv n hn).1.2
    rw [hvv]at this;cases this
  refine hi.step (X:=bl) ⟨hv.old.os,hv.old.tape,hv.old.output,hv.old.size,fun b hb hn=>hv.old.block b hb hn⟩ hbw hI (fun b q hb hnm hq=>hv.g0 b q (Nat.lt_of_lt_of_le hb hi.old.size) (fun hbl=>(hbw b hbl).elim (fun h=>absurd hb (Nat.not_lt.2 h)) hnm) hq) hle1 (fun n rg hr=>?_) (fun b q x hx=>.inr (hv.gh b q x hx)) fun n hn=>?_
  ·by_cases hu:n∈ns∨(f≤n∧n<h1.length)
   ·rw [us_at hu]
    rcases hu with hu|hu
    ·rw [hβn n (hlt n hu)]at hr
     exact hv.dom n rg (hα1 n hu rg hr)
    rw [hβf n hu.1 (by omega)]at hr
    exact hv.dom n rg hr
   rw [us_no (fun h=>hu (.inl h)) (fun h=>hu (.inr h))]
   by_cases h2:f≤n∧n<f+N
   ·rw [hβf n h2.1 h2.2]at hr
    have hd:=hv.dom n rg hr
    exact absurd (by simp [at_,List.getD_eq_getElem?_getD,List.getElem?_eq_none (show h1.length≤n from Nat.le_of_not_lt fun h=>hu (.inr ⟨h2.1,h⟩))]) hd
   have hr:(if f≤n∧n<f+N then α1 n else α n)=some rg:=hr
   rw [if_neg h2]at hr
   exact hi.dom n rg hr
  by_cases hu:n∈ns∨(f≤n∧n<h1.length)
  ·rw [us_at hu]at hn ⊢
   obtain⟨rg,q1,q2,q3⟩:=hv.liv n hn
   refine .inr ⟨rg,hle2 n rg q1,fun hvv=>?_,q3.keep (.refl _) hle2 (fun _=>rfl) (fun _ _ h=>h),fun hvv m r' hm hl' hr' hv'=>?_⟩
   ·rcases q2 hvv with h5|⟨h5,h6⟩
    ·exact .inl (Nat.le_trans hi.old.size h5)
    exact(hbw rg.b h5).imp id fun h=>⟨h,h6⟩
   by_cases hu2:m∈ns∨(f≤m∧m<h1.length)
   ·rw [us_at hu2]at hl'
    obtain⟨r'',q4,_,_⟩:=hv.liv m hl'
    have:=hle2 m r'' q4
    rw [hr']at this;obtain rfl:=Option.some.inj this
    exact fun e=>hv.sep m n _ rg hm hl' hn q4 q1 hv' hvv e
   rw [us_no (fun h=>hu2 (.inl h)) (fun h=>hu2 (.inr h))]at hl'
   have hmα:α m=some r':=by
    obtain⟨r'',q4,_⟩:=hi.liv m hl'
    have:=hle1 m r'' q4
    rw [hr']at this;rw [this];exact q4
   have hmb:=hwlt hl' hmα hv'
   rcases q2 hvv with h5|⟨h5,_⟩
   ·intro e;omega
   obtain⟨k,hk,rk,q5,q6⟩:=hbl' rg.b h5
   obtain⟨rk',q7,_,q8⟩:=hreg k hk
   rw [q5]at q7;obtain rfl:=Option.some.inj q7
   have hkv:rk.v=false:=q8.notV (hlv k hk).1.1 (hlv k hk).1.2
   rw [← q6]
   exact hi.sep m k r' rk (fun e=>hu2 (.inl (e▸hk))) hl' (hlv k hk).1.1 hmα q5 hv' hkv
  rw [us_no (fun h=>hu (.inl h)) (fun h=>hu (.inr h))]at hn ⊢
  refine .inl ⟨rfl,fun rg hr hvv=>?_⟩
  have hnb:rg.b∉bl:=?_
  ·exact⟨hnb,fun q hq=>hv.g0 rg.b q (hwlt hn hr hvv) hnb hq⟩
  intro hb
  obtain⟨k,hk,rk,q5,q6⟩:=hbl' rg.b hb
  obtain⟨rk',q7,_,q8⟩:=hreg k hk
  rw [q5]at q7;obtain rfl:=Option.some.inj q7
  have hkv:rk.v=false:=q8.notV (hlv k hk).1.1 (hlv k hk).1.2
  exact hi.sep n k rg rk (fun e=>hu (.inl (e▸hk))) hn (hlv k hk).1.1 hr q5 hvv hkv q6.symm
 cases r with
 | ret d=>cases e<;>first|exact Den.mono (d:=d) he (.refl _) hle2|exact he.elim
 | pan d=>cases e<;>first|exact he.elim|(obtain⟨v,q1,q2⟩:=he;exact⟨v,q1,q2.mono (.refl _) hle2⟩)
theorem at_clH{f:Nat}{ns:List Nat}{h:Heap}{n:Nat}:at_ (clH f ns h) n=if ownN f ns n=true then at_ h n else .non:=by
 unfold clH at_
 simp only [List.getD_eq_getElem?_getD,List.getElem?_map]
 by_cases hn:n<h.length
 ·rw [List.getElem?_range hn];simp
 rw [List.getElem?_eq_none (by simpa using hn),List.getElem?_eq_none (Nat.le_of_not_lt hn)]
 split<;>rfl
theorem HInv.onp{p:Nat→Bool}(hi:HInv P (tyOf P) w0 ms h α I W)(hk:∀ m,at_ h' m=if p m=true then at_ h m else .non)(hb:∀ m,p m=true→nmK p (at_ h m)=true):HInv P (tyOf P) w0 ms h' (α.on p) I W:=by
 have hlv:∀ m,(at_ h' m).live=true→p m=true∧at_ h' m=at_ h m:=fun m hm=>by
  rw [hk]at hm ⊢
  by_cases hp:p m=true
  ·exact⟨hp,if_pos hp⟩
  rw [if_neg hp]at hm;cases hm
 refine⟨hi.old,fun m r hr=>?_,fun m hm=>?_,fun m q r r' hmq h1 h2 h3 h4=>?_,hi.gh,hi.g0⟩
 ·unfold Al.on at hr
  by_cases hp:p m=true
  ·rw [if_pos hp]at hr
   rw [hk,if_pos hp];exact hi.dom m r hr
  rw [if_neg hp]at hr;cases hr
 ·obtain⟨hp,he⟩:=hlv m hm
  rw [he]at hm ⊢
  obtain⟨r,h1,h2,h3⟩:=hi.liv m hm
  exact⟨r,Al.on_at hp h1,h2,h3.nmk (hb m hp)⟩
 obtain⟨_,he⟩:=hlv m h1
 obtain⟨_,he'⟩:=hlv q h2
 rw [he]at h1
 rw [he']at h2
 exact hi.sep m q r r' hmq h1 h2 (Al.on_le _ _ h3) (Al.on_le _ _ h4)
theorem CallSd.clean{g:FuncId}{args:List D}{r:Rs}{f:Nat}{ns:List Nat}{h1:Heap}(hc:CallSd P g args (hpOf f ns (ns.map (at_ h))) r h1)(hb:clB f ns r h1=true):CallSd P g args (hpOf f ns (ns.map (at_ h))) r (clH f ns h1):=fun w0 ms α I W xs hi hl hx =>
 (hc w0 ms α I W xs hi hl hx).mono fun e W' hh=>by
  obtain⟨α',I',q1,q2,q3,q4⟩:=hh
  obtain⟨b1,b2⟩:=(Bool.and_eq_true _ _).mp hb
  refine⟨α'.on (ownN f ns),I',fun n rg hr=>?_,q2,q3.onp (fun m=>at_clH) (fun m hp=>?_),?_⟩
  ·have hd:=hi.dom n rg hr
   rw [at_hpOf]at hd
   by_cases hn:n∈ns∧n<f
   ·exact Al.on_at (by unfold ownN;rw [show ns.contains n=true by simpa using hn.1];rfl) (q1 n rg hr)
   rw [if_neg hn]at hd;exact absurd rfl hd
  ·by_cases hm:m<h1.length
   ·have:=List.all_eq_true.1 b2 m (by simpa using hm)
    rw [hp]at this
    simpa using this
   rw [show at_ h1 m=.non by simp [at_,List.getD_eq_getElem?_getD,List.getElem?_eq_none (Nat.le_of_not_lt hm)]]
   rfl
  cases r with
  | ret d=>cases e<;>first|exact Den.nm (d:=d) q4 8 b1|exact q4.elim
  | pan d=>cases e<;>first|exact q4.elim|(obtain⟨v,k1,k2⟩:=q4;exact⟨v,k1,k2.nm 8 b1⟩)
theorem fcall_ok{qf:FuncId→Bool}{f0:Nat}{call:Caller}(hcall:∀ g args h r h',Ev E Γ (Rs×Heap) (call g args h) (r,h')→CallSd P g args h r h'):∀ g args h r h',Ev E Γ (Rs×Heap) (fcall qf f0 call g args h) (r,h')→CallSd P g args h r h':=by
 intro g args h r h' he
 unfold fcall at he
 split at he
 ·rename_i hc
  simp only [Bool.and_eq_true,decide_eq_true_eq]at hc
  obtain⟨⟨_,hlen⟩,ha⟩:=hc
  obtain⟨⟨r1,h10⟩,h2,h30⟩:=ev_bind he
  dsimp only at h30
  split at h30
  rename_i hclB
  have hcl:=(hcall g args _ _ h10 h2).clean hclB
  generalize clH f0 (once (args.flatMap D.names)) h10=h1 at h30 hcl
  have h3:=h30
  unfold fcE at h3
  dsimp only at h3
  split at h3
  ·rename_i hok
   simp only [Bool.and_eq_true]at hok
   obtain⟨⟨hfr,hlt⟩,hk⟩:=hok
   have:=ev_pure_eq h3
   cases this
   intro w0 ms α I W xs hi hl hx
   have hnon:∀ n,h.length≤n→at_ h n=.non:=fun n hn=>by simp [at_,List.getD_eq_getElem?_getD,List.getElem?_eq_none hn]
   refine(CallSd.frame (N:=h1.length) hcl hfr (fun j _=>hnon _ (by omega)) ha hi hl hx).mono fun e W' hh=>?_
   obtain⟨α',I',q1,q2,q3,q4⟩:=hh
   have hns:∀ n∈once (args.flatMap D.names),n<f0:=fun n hn=>by
    have hfr:=hfr
    simp only [frOk,Bool.and_eq_true]at hfr
    simpa using List.all_eq_true.1 hfr.1.1.1 n hn
   have h5:∀ n,at_ (upd h ((once (args.flatMap D.names)).map fun n=>(n,at_ h1 n))) n=if n∈once (args.flatMap D.names)then at_ h1 n else at_ h n:=fun n=>by
    split
    ·rename_i hn
     exact upd_at (fun m c hm e=>by obtain⟨k,_,hk⟩:=List.mem_map.1 hm;cases hk;rw [e]) (by rw [List.map_map];exact List.mem_map.2 ⟨n,hn,rfl⟩)
    rename_i hn
    refine at_upd_no fun hm=>hn ?_
    rw [List.map_map]at hm
    obtain⟨k,h6,h7⟩:=List.mem_map.1 hm
    have h7:k=n:=h7
    exact h7▸h6
   have hLe:LeA α (α'.upto f0):=fun n rg hr=>Al.upto_at (by
    by_cases hn:n<h.length
    ·omega
    exact absurd (hnon n (by omega)) (hi.dom n rg hr)) (q1 n rg hr)
   refine⟨α'.upto f0,I',hLe,q2,q3.lt (fun m hm=>.inr ⟨?_,?_⟩) (fun m hm=>?_),?_⟩
   ·rw [h5]
    split
    ·rename_i hn;rw [us_at (.inl hn)]
    rename_i hn;rw [us_no hn (by omega)]
   ·have:=List.all_eq_true.1 hk m (by simpa using hm)
    exact this
   ·rw [h5,if_neg (fun hn=>by have:=hns m hn;omega)]
    exact hnon m (by omega)
   cases r with
   | ret d=>cases e<;>first|exact Den.lt (d:=d) q4 8 hlt|exact q4.elim
   | pan d=>cases e<;>first|exact q4.elim|(obtain⟨v,k1,k2⟩:=q4;exact⟨v,k1,k2.lt 8 hlt⟩)
  ·cases h3
  cases h30
 exact hcall g args h r h' he
theorem planC_ok{pf qf:FuncId→Bool}{call:Caller}(hcall:∀ g args h r h',Ev E Γ (Rs×Heap) (call g args h) (r,h')→CallSd P g args h r h'):PlS P E Γ rn (planC P pf qf call) ftC:=by
 intro o Q vs f d us h he w0 ms α I a W hi hv hf K hK
 unfold planC at he
 split at he
 ·rename_i c hop
  obtain⟨cal,ar,at'⟩:=c
  dsimp only at he
  split at he
  ·rename_i vs' x g fs cap xs
   split at he
   ·rename_i hc
    simp only [Bool.and_eq_true]at hc
    obtain⟨⟨_,hen⟩,hall⟩:=hc
    obtain⟨⟨r,h1⟩,h2,h3⟩:=ev_bind he
    dsimp only at h3
    cases r with
    | pan d'=>cases h3
    | ret d' =>
     dsimp only at h3
     split at h3
     ·rename_i hlt
      have h4:=ev_pure_eq h3
      cases h4
      have hops:o.op.operands.toList=x::ar.toList:=by rw [hop];simp [Op.operands,Call.operands]
      rw [hops]at hv
      have hD:=hv.2 0 _ _ rfl rfl
      generalize hx:a.eval x=xv at hD
      cases hD with
      | @fn _ _ _ _ u y hla hlb hxx hyy =>
       refine operIn_of_wp (fun c' hc'=>by rw [hop]at hc';cases hc') ?_
       have hargs:∀ (j:Nat) d v,(fs++xs++cap)[j]?=some d→(u++ar.map a.eval++y)[j]?=some v→Den (tyOf P) I α d v:=by
        intro j d v g1 g2
        have hxl:xs.length=ar.size:=by have:=hv.1;simpa using this
        by_cases hj:j<fs.length
        ·rw [List.append_assoc,List.getElem?_append_left hj]at g1
         rw [Array.append_assoc,Array.getElem?_append_left (by omega)]at g2
         exact hxx j d v g1 g2
        rw [List.append_assoc,List.getElem?_append_right (by omega)]at g1
        rw [Array.append_assoc,Array.getElem?_append_right (by omega),← hla]at g2
        by_cases hj2:j-fs.length<ar.size
        ·rw [List.getElem?_append_left (by omega)]at g1
         rw [Array.getElem?_append_left (by simpa using hj2),Array.getElem?_map]at g2
         obtain⟨q,hq,rfl⟩:=Option.map_eq_some_iff.1 g2
         exact hv.2 (j-fs.length+1) d q (by simpa using g1) (by simpa using hq)
        rw [List.getElem?_append_right (by omega)]at g1
        rw [Array.getElem?_append_right (by simp;omega)]at g2
        rw [hxl]at g1
        simp only [Array.size_map]at g2
        exact hyy _ d v g1 g2
       have hxl:xs.length=ar.size:=by have:=hv.1;simpa using this
       refine wp_callB hop hx rfl (enters_run hen _ _) ((hcall g _ [] _ h1 h2).alone (r':=.ret (d'.fz P _).strp) hall (fun h=>EndR.strp h) hlt h w0 ms α I W _ hi (by simp [hla,hlb,hxl]) hargs) (fun v W' hh=>?_) (fun c W' hh=>?_) fun W' hh=>?_
       ·obtain⟨α',I',q1,q2,q3,q4⟩:=hh
        exact hK α' I' v W' q1 q2 q3 q4
       ·obtain⟨α',I',q1,q2,q3,q4⟩:=hh
        exact q4.elim
       obtain⟨α',I',q1,q2,q3,q4⟩:=hh
       exact q4.elim
     cases h3
   split at he
   ·rename_i hc
    simp only [Bool.and_eq_true]at hc
    obtain⟨⟨_,hen⟩,hall⟩:=hc
    obtain⟨⟨r,h1⟩,h2,h3⟩:=ev_bind he
    dsimp only at h3
    cases r with
    | pan d'=>cases h3
    | ret d' =>
     dsimp only at h3
     have hns:ftC o (D.fn (.func g) fs cap::xs)=(D.fn (.func g) fs cap::xs).flatMap D.names:=by
      unfold ftC;rw [hop]
     rw [hns]at h2 h3
     have h3:∃ h1,CallSd P g (fs++xs++cap) (hpOf f ((D.fn (.func g) fs cap::xs).flatMap D.names) (((D.fn (.func g) fs cap::xs).flatMap D.names).map (at_ h))) (.ret d') h1∧frOk 16 f ((D.fn (.func g) fs cap::xs).flatMap D.names) (((D.fn (.func g) fs cap::xs).flatMap D.names).map (at_ h)) h1=true∧Ev E Γ Re (.pure (.ok d' (usOf f ((D.fn (.func g) fs cap::xs).flatMap D.names) h1))) (.ok d us):=by
      have hc0:=hcall g _ _ _ h1 h2
      split at h3
      ·exact⟨h1,hc0,‹_›,h3⟩
      split at h3
      ·rename_i hcc
       obtain⟨c1,c2⟩:=(Bool.and_eq_true _ _).mp hcc
       exact⟨_,hc0.clean c1,c2,h3⟩
      cases h3
     clear h2
     obtain⟨h1,h2,hok,h3⟩:=h3
     have h4:=ev_pure_eq h3
     cases h4
     have hops:o.op.operands.toList=x::ar.toList:=by rw [hop];simp [Op.operands,Call.operands]
     rw [hops]at hv
     have hD:=hv.2 0 _ _ rfl rfl
     generalize hx:a.eval x=xv at hD
     cases hD with
     | @fn _ _ _ _ u y hla hlb hxx hyy =>
      refine operIn_of_wp (fun c' hc'=>by rw [hop]at hc';cases hc') ?_
      have hxl:xs.length=ar.size:=by have:=hv.1;simpa using this
      have hargs:∀ (j:Nat) d v,(fs++xs++cap)[j]?=some d→(u++ar.map a.eval++y)[j]?=some v→Den (tyOf P) I α d v:=by
       intro j d v g1 g2
       by_cases hj:j<fs.length
       ·rw [List.append_assoc,List.getElem?_append_left hj]at g1
        rw [Array.append_assoc,Array.getElem?_append_left (by omega)]at g2
        exact hxx j d v g1 g2
       rw [List.append_assoc,List.getElem?_append_right (by omega)]at g1
       rw [Array.append_assoc,Array.getElem?_append_right (by omega),← hla]at g2
       by_cases hj2:j-fs.length<ar.size
       ·rw [List.getElem?_append_left (by omega)]at g1
        rw [Array.getElem?_append_left (by simpa using hj2),Array.getElem?_map]at g2
        obtain⟨q,hq,rfl⟩:=Option.map_eq_some_iff.1 g2
        exact hv.2 (j-fs.length+1) d q (by simpa using g1) (by simpa using hq)
       rw [List.getElem?_append_right (by omega)]at g1
       rw [Array.getElem?_append_right (by simp;omega)]at g2
       rw [hxl]at g1
       simp only [Array.size_map]at g2
       exact hyy _ d v g1 g2
      refine wp_callB hop hx rfl (enters_run hen _ _) (CallSd.frame h2 hok hf hall hi (by simp [hla,hlb,hxl]) hargs) (fun v W' hh=>?_) (fun c W' hh=>?_) fun W' hh=>?_
      ·obtain⟨α',I',q1,q2,q3,q4⟩:=hh
       exact hK α' I' v W' q1 q2 q3 q4
      ·obtain⟨α',I',q1,q2,q3,q4⟩:=hh
       exact q4.elim
      obtain⟨α',I',q1,q2,q3,q4⟩:=hh
      exact q4.elim
   split at he
   ·rename_i hc
    simp only [Bool.and_eq_true]at hc
    obtain⟨⟨⟨_,hen⟩,hin⟩,hall⟩:=hc
    obtain⟨⟨r,h1⟩,h2,h3⟩:=ev_bind he
    dsimp only at h3
    split at h3
    ·rename_i hs
     cases r with
     | pan d'=>cases h3
     | ret d' =>
     have h4:=ev_pure_eq h3
     cases h4
     have hns:ftC o (D.fn (.func g) fs cap::xs)=(D.fn (.func g) fs cap::xs).flatMap D.names:=by
      unfold ftC;rw [hop]
     rw [hns]at h2 hall
     have hmap:(fs++xs++cap).map (fz1 P (hpOf f ((D.fn (.func g) fs cap::xs).flatMap D.names) (((D.fn (.func g) fs cap::xs).flatMap D.names).map (at_ h))))=(fs++xs++cap).map (fz1 P h):=by
      refine List.map_congr_left fun d hd=>?_
      have hd:=List.all_eq_true.1 hin d hd
      unfold fz1
      cases d with
      | ar kn n i len =>
       have hd:(((D.fn (.func g) fs cap::xs).flatMap D.names).contains n && decide (n<f))=true:=hd
       simp only [Bool.and_eq_true,decide_eq_true_eq,List.contains_iff_mem]at hd
       dsimp only
       rw [at_hpOf,if_pos hd]
      | _=>rfl
     rw [hmap]at h2 hall
     have hops:o.op.operands.toList=x::ar.toList:=by rw [hop];simp [Op.operands,Call.operands]
     rw [hops]at hv
     have hD:=hv.2 0 _ _ rfl rfl
     generalize hx:a.eval x=xv at hD
     cases hD with
     | @fn _ _ _ _ u y hla hlb hxx hyy =>
      refine operIn_of_wp (fun c' hc'=>by rw [hop]at hc';cases hc') ?_
      have hxl:xs.length=ar.size:=by have:=hv.1;simpa using this
      have hargs:∀ (j:Nat) d v,(fs++xs++cap)[j]?=some d→(u++ar.map a.eval++y)[j]?=some v→Den (tyOf P) I α d v:=by
       intro j d v g1 g2
       by_cases hj:j<fs.length
       ·rw [List.append_assoc,List.getElem?_append_left hj]at g1
        rw [Array.append_assoc,Array.getElem?_append_left (by omega)]at g2
        exact hxx j d v g1 g2
       rw [List.append_assoc,List.getElem?_append_right (by omega)]at g1
       rw [Array.append_assoc,Array.getElem?_append_right (by omega),← hla]at g2
       by_cases hj2:j-fs.length<ar.size
       ·rw [List.getElem?_append_left (by omega)]at g1
        rw [Array.getElem?_append_left (by simpa using hj2),Array.getElem?_map]at g2
        obtain⟨q,hq,rfl⟩:=Option.map_eq_some_iff.1 g2
        exact hv.2 (j-fs.length+1) d q (by simpa using g1) (by simpa using hq)
       rw [List.getElem?_append_right (by omega)]at g1
       rw [Array.getElem?_append_right (by simp;omega)]at g2
       rw [hxl]at g1
       simp only [Array.size_map]at g2
       exact hyy _ d v g1 g2
      refine wp_callB hop hx rfl (enters_run hen _ _) (CallSd.read (hcall g _ _ _ h1 h2) hall hs w0 ms α I W _ hi (by simp [hla,hlb,hxl]) hargs) (fun v W' hh=>?_) (fun c W' hh=>?_) fun W' hh=>?_
      ·obtain⟨α',I',q1,q2,q3,q4⟩:=hh
       exact hK α' I' v W' q1 q2 q3 q4
      ·obtain⟨α',I',q1,q2,q3,q4⟩:=hh
       exact q4.elim
      obtain⟨α',I',q1,q2,q3,q4⟩:=hh
      exact q4.elim
    cases h3
   cases he
  ·cases he
  rename_i hno1 hno
  have hft:ftC o vs=ftP o vs:=by
   unfold ftC ftP
   rw [hop]
   cases cal<;>first|rfl|exact(hno _ rfl).elim|exact(hno1 _ rfl).elim
  rw [hft]at he
  exact planPl_ok (E:=E) (Γ:=Γ) (rn:=rn) o Q vs f d us h he w0 ms α I a W hi hv hf K hK
 rename_i hno
 have hft:ftC o vs=ftP o vs:=by
  unfold ftC ftP
  cases hop:o.op<;>first|rfl|exact absurd hop (hno _)
 rw [hft]at he
 exact planPl_ok o Q vs f d us h he w0 ms α I a W hi hv hf K hK
end
end Z
namespace Z
def rdT:List Tmp→List D→List D→List D
 | t::ps,d::r,ts=>rdT ps r (ts.set t d)
 | _,_,ts=>ts
def peOf:Ex→Option PE
 | .normal=>some .non
 | .ret=>some .ret
 | .exit i=>some (.exit i)
 | .pan _=>none
def PE.isN:PE→Bool
 | .non=>true
 | _=>false
def PE.ex:PE→Ex
 | .non=>.normal
 | .ret=>.ret
 | .exit i=>.exit i
def ylF(P:Program)(KR:Kit)(f:FuncId):Yl:=fun n args h=>match at_ h n with
 | .rc f' ts .ready .non=>if f'=f then(match rgOf P f with
  | some (ps,sg,bd)=>if args.length=ps.size then(evC KR sg ⟨rdT ps.toList args ts,h,[]⟩).bind fun r=>(match r.1,at_ r.2.h n with
   | .normal,.rc f2 ts2 .ready .non=>if f2=f then(evC KR bd { r.2 with h:=put r.2.h n (.rc f ts2 .busy .non) }).bind fun q=>(match at_ q.2.h n,peOf q.1 with
    | .rc f3 ts3 .busy .non,some pe=>if f3=f then .pure (pe.isN,put q.2.h n (.rc f ts3 (bif pe.isN then .ready else .done) pe))else .bad 220
    | _,_=>.bad 221)else .bad 222
   | _,_=>.bad 223)else .bad 224
  | none=>.bad 225)else .bad 226
 | _=>.bad 227
def rgF1(P:Program)(f:FuncId)(callY:Yl→Caller)(KR:Kit)(g:Operand)(s:S):M (Ex×S):=match s.opd g with
 | .fn (.func gf) [] cap=>if enters P gf=true then(callY (ylF P KR f) gf (.y (s.h.length+1)::cap) (put (put s.h s.h.length .mk) (s.h.length+1) (.rc f s.ts .ready .non))).bind fun r=>(match r.1 with
  | .ret _=>(match at_ r.2 s.h.length,at_ r.2 (s.h.length+1)with
   | .mk,.rc f' _ st pe=>if f'=f∧lsEq st .busy=false then .pure (pe.ex,{ ts:=s.ts,h:=put r.2 (s.h.length+1) .dead,df:=.mark s.h.length::s.df })else .bad 230
   | _,_=>.bad 231)
  | .pan _=>.bad 232)else .bad 233
 | _=>.bad 234
section
variable {P:Program}{E:LId→LSt→M Rd1}{Γ:Cn}{w0:World}{ms:Ms}{h h':Heap}{α α' β:Al}{I I':Gh}{W W':World}{o:Oper}{a a0:Act}{s s':S}{n:Nat}{rn:Option Nat}
theorem rdT_ok:∀ {ps:List Tmp}{args:List D}{vs:List Value}{ts:List D}{tmps:Array Value},args.length=vs.length→args.length=ps.length→(∀ (j:Nat) d x,args[j]?=some d→vs[j]?=some x→Den (tyOf P) I α d x)→ts.length=tmps.size→(∀ (t:Nat) d x,ts[t]?=some d→tmps[t]?=some x→Den (tyOf P) I α d x) →
 (rdT ps args ts).length=((ps.zip vs).foldl (fun tmps (t,a)=>tmps.setIfInBounds t a) tmps).size∧∀ (t:Nat) d x,(rdT ps args ts)[t]?=some d→((ps.zip vs).foldl (fun tmps (t,a)=>tmps.setIfInBounds t a) tmps)[t]?=some x→Den (tyOf P) I α d x
 | [],args,vs,ts,tmps,h1,h2,hd,hl,ht=>by
  obtain rfl:args=[]:=List.eq_nil_of_length_eq_zero h2
  exact⟨by simpa [rdT]using hl,by simpa [rdT]using ht⟩
 | p::ps,[],vs,ts,tmps,h1,h2,hd,hl,ht=>nomatch h2
 | p::ps,d::r,[],ts,tmps,h1,h2,hd,hl,ht=>nomatch h1
 | p::ps,d::r,v::vs,ts,tmps,h1,h2,hd,hl,ht=>by
  simp only [List.zip_cons_cons,List.foldl_cons]
  refine rdT_ok (ts:=ts.set p d) (tmps:=tmps.setIfInBounds p v) (by simpa using h1) (by simpa using h2) (fun j d x g1 g2=>hd (j+1) d x (by simpa using g1) (by simpa using g2)) (by simpa using hl) fun t e x g1 g2=>?_
  rw [List.getElem?_set]at g1
  by_cases htp:p=t
  ·subst htp
   rw [if_pos rfl]at g1
   split at g1
   ·rename_i hlt
    obtain rfl:=Option.some.inj g1
    rw [Array.getElem?_setIfInBounds_self_of_lt (by rw [← hl];exact hlt)]at g2
    obtain rfl:=Option.some.inj g2
    exact hd 0 _ _ rfl rfl
   cases g1
  rw [if_neg htp]at g1
  rw [Array.getElem?_setIfInBounds_ne htp]at g2
  exact ht t e x g1 g2
theorem HInv.rcd(hi:HInv P (tyOf P) w0 ms h α I W){f:FuncId}{ts:List D}{st:LoopState}{pe:PE}{r:Reg}(hn:at_ h n=.rc f ts st pe)(hr:α n=some r):r.v=false∧∃ L,r.lp=some L∧rgOf P f=some (L.params,L.assign,L.body)∧W.heap[r.b]?=some (.loop { L with state:=st,pending:=pe.code })∧ts.length=L.tmps.size∧(∀ (j:Nat) d x,ts[j]?=some d→L.tmps[j]?=some x→Den (tyOf P) I α d x):=by
 obtain⟨r',h1,h2,h3⟩:=hi.liv n (by rw [hn];rfl)
 rw [hr]at h1
 obtain rfl:=Option.some.inj h1
 rw [hn]at h3
 exact h3
theorem HInv.rcp(hi:HInv P (tyOf P) w0 ms h α I W){f:FuncId}{ts:List D}{st:LoopState}{pe:PE}{r:Reg}{L:Loop}(hn:at_ h n=.rc f ts st pe)(hr:α n=some r)(hL:r.lp=some L)(st':LoopState)(pe':PE):HInv P (tyOf P) w0 ms (put h n (.rc f ts st' pe')) α I (W.putObj r.b (.loop { L with state:=st',pending:=pe'.code })):=by
 obtain⟨hv,L',h1,h2,h3,h4,h5⟩:=hi.rcd hn hr
 rw [hL]at h1;obtain rfl:=Option.some.inj h1
 exact hi.reobj hr hv (by rw [hn];rfl) h3 (by intro c t k;exact fun h=>nomatch h) (fun h=>nomatch h) (fun _ h=>nomatch h) ⟨hv,L,hL,h2,World.putObj_heap_same ((Array.getElem?_eq_some_iff.1 h3).1),h4,h5⟩
theorem ylF_ok{KR:Kit}{f:FuncId}(hK:∀ rn,KR.Ok P E Γ (fun _=>True) rn):∀ n args h b h',Ev E Γ (Bool×Heap) (ylF P KR f n args h) (b,h')→YlSd P n args h b h':=by
 intro n args h b h' he w0 ms α I W r q o a g xs ats hi hr ho hg hl hx K Q hk
 unfold ylF at he
 split at he
 ·rename_i f' ts hn
  split at he
  ·rename_i hff
   subst hff
   obtain⟨hv,L,hL,hrg,hblk,htl,htd⟩:=hi.rcd hn hr
   rw [hrg]at he
   dsimp only at he
   split at he
   ·rename_i hps
    obtain⟨⟨e1,s1⟩,h1,h2⟩:=ev_bind he
    dsimp only at h2
    have hLr:(some (Obj.loop { L with state:=.ready,pending:=PE.non.code }):Option Obj)=some (.loop ({ L with state:=.ready,pending:=none }:Loop)):=rfl
    obtain⟨L0,hL0⟩:∃ L0:Loop,L0={ L with state:=.ready,pending:=none }:=⟨_,rfl⟩
    have hall:∀ c,AllL (fun _=>True) c:=fun c=>allL_of fun _ _=>trivial
    refine wpR_yield (r:=L0) (vs:=xs.map a.eval) ho hg rfl (by rw [hblk,hL0];rfl) (by rw [hL0];simp;omega) (by rw [hL0]) ?_
    have hround:=rdT_ok (P:=P) (I:=I) (α:=α) (ps:=L.params.toList) (args:=args) (vs:=(xs.map a.eval).toList) (ts:=ts) (tmps:=L.tmps) (by simp;omega) (by simpa using hps) (fun j d x g1 g2=>by
     have g2:(xs.map a.eval)[j]?=some x:=by simpa using g2
     rw [Array.getElem?_map]at g2
     obtain⟨y,g3,rfl⟩:=Option.map_eq_some_iff.1 g2
     exact hx j d y g1 g3) htl htd
    have hrt:roundT L0 (xs.map a.eval)=(L.params.toList.zip (xs.map a.eval).toList).foldl (fun tmps (t,a)=>tmps.setIfInBounds t a) L.tmps:=by
     rw [hL0];unfold roundT
     rw [← Array.foldl_toList,Array.toList_zip]
    have hasg:L0.assign=L.assign:=by rw [hL0]
    refine wpR_mono (c:=L0.assign) (by rw [hasg];exact evC_ok (hK (some r.b)) _ _ _ _ (hall _) h1 w0 ms α I { tmps:=roundT L0 (xs.map a.eval),defers:=[] } W ⟨hi,by rw [hrt];exact hround.1,fun t d x g1 g2=>hround.2 t d x g1 (by rw [← hrt];exact g2),rfl,fun j f d g1 g2=>by simp at g1⟩ (fun x a' W'=>Post P w0 ms α I e1 s1 x a' W') fun x a' W' hp=>hp) fun x a1 W1 hp=>?_
    obtain⟨α1,I1,f1,f2,f3,f4⟩:=hp
    split at h2
    ·rename_i f2' ts2 hn1
     cases x with
     | normal =>
      split at h2
      ·rename_i hf2
       subst hf2
       obtain⟨⟨e2,s2⟩,h3,h4⟩:=ev_bind h2
       dsimp only at h4
       have hr1:=f1 n r hr
       obtain⟨_,L1,hL1,_,hblk1,_⟩:=f4.hv.rcd hn1 hr1
       rw [hL]at hL1;obtain rfl:=Option.some.inj hL1
       refine⟨by rw [hblk1,hL0];rfl,?_⟩
       have hb:=f4.hv.rcp hn1 hr1 hL .busy .non
       have hbe:({ L with state:=.busy,pending:=PE.non.code }:Loop)={ L0 with state:=.busy }:=by rw [hL0];rfl
       rw [hbe]at hb
       have hbd:L0.body=L.body:=by rw [hL0]
       have cv:∀ c,c=L.body→wpR (some r.b) P c (fun x a' W'=>Post P w0 ms α1 I1 e2 s2 x a' W') a1 (W1.putObj r.b (.loop { L0 with state:=.busy })):=fun c hc=>by
        subst hc
        exact evC_ok (hK (some r.b)) _ _ _ _ (hall _) h3 w0 ms α1 I1 a1 _ ⟨hb,f4.tn,f4.ts,f4.dn,f4.df⟩ (fun x a' W'=>Post P w0 ms α1 I1 e2 s2 x a' W') fun x a' W' hp=>hp
       refine wpR_mono (cv _ hbd) fun x a2 W2 hp=>?_
       obtain⟨α2,I2,g1,g2,g3,g4⟩:=hp
       split at h4
       ·rename_i f3' ts3 pe hn2 hpe
        split at h4
        ·rename_i hf3
         subst hf3
         have:=ev_pure_eq h4
         cases this
         have hr2:=g1 n r hr1
         obtain⟨_,L2,hL2,_,hblk2,_⟩:=g4.hv.rcd hn2 hr2
         rw [hL]at hL2;obtain rfl:=Option.some.inj hL2
         have key:∀ st,st=(bif pe.isN then LoopState.ready else .done)→K (a.put o.dst (.bool pe.isN)) (W2.putObj r.b (.loop { L0 with state:=st,pending:=pe.code })):=fun st hst=>by
          have hb2:=g4.hv.rcp hn2 hr2 hL st pe
          have hbe2:({ L with state:=st,pending:=pe.code }:Loop)={ L0 with state:=st,pending:=pe.code }:=by rw [hL0]
          rw [hbe2]at hb2
          rw [hst]at hb2 ⊢
          exact hk α2 I2 _ (f1.trans g1) (f2.trans g2) hb2
         refine⟨by rw [hblk2,hL0];rfl,?_⟩
         cases e2 with
         | normal =>
          cases hpe
          cases x<;>first|exact key _ rfl|exact g3.elim
         | ret =>
          cases hpe
          cases x<;>first|exact key _ rfl|exact g3.elim
         | exit i =>
          cases hpe
          cases x with
          | exit j =>
           obtain rfl:i=j:=g3
           exact key _ rfl
          | _=>exact g3.elim
         | pan d=>cases hpe
        cases h4
       cases h4
      cases h2
     | _=>exact f3.elim
    cases h2
   cases he
  cases he
 cases he
theorem Stp.alloc(W:World)(o:Obj):Stp [] W (W.alloc o):=⟨rfl,rfl,rfl,by show W.heap.size≤(W.heap.push o).size;simp,fun b hb _=>by
 show(W.heap.push o)[b]?=_
 rw [Array.getElem?_push,if_neg (by omega)]⟩
theorem alloc_at(W:World)(o:Obj):(W.alloc o).heap[W.heap.size]?=some o:=by
 show(W.heap.push o)[W.heap.size]?=_
 simp
theorem HInv.alloc(hi:HInv P (tyOf P) w0 ms h α I W){B:Blk}{r:Reg}{o:Obj}(hn:at_ h n=.non)(hr:r.b=W.heap.size)(hB:B≠.non)(hrep:Rep P (tyOf P) I (α.set n r) (W.alloc o) r B):HInv P (tyOf P) w0 ms (put h n B) (α.set n r) I (W.alloc o) :=
 hi.new hn (fun _=>Nat.le_of_eq hr.symm) (.alloc ..) (.refl _) (fun b q x hx=>.inl hx) (fun b q _ h=>h) hB hrep
theorem rgF1_ok{callY:Yl→Caller}{KR:Kit}{f:FuncId}{g:Operand}{ps:Array Tmp}{sg bd:Code}{e:Ex}(hK:∀ rn,KR.Ok P E Γ (fun _=>True) rn)(hcall:∀ g args h r h',Ev E Γ (Rs×Heap) (callY (ylF P KR f) g args h) (r,h')→CallSd P g args h r h')(hrg:rgOf P f=some (ps,sg,bd))
 (he:Ev E Γ (Ex×S) (rgF1 P f callY KR g s) (e,s')):CdSd P none (.rangeFunc g ps sg bd) s e s':=by
 unfold rgF1 at he
 split at he
 ·rename_i gf cap hfd
  split at he
  ·rename_i hen
   obtain⟨⟨r,h1⟩,h2,h3⟩:=ev_bind he
   dsimp only at h3
   intro w0 ms α I a W hi Q hQ
   have hD:=hi.opd g
   rw [hfd]at hD
   generalize hx:a.eval g=x at hD
   cases hD with
   | @fn _ _ _ _ x y hla hlb hxx hyy =>
    obtain rfl:x=#[]:=by
     have:x.size=0:=hla.symm
     exact Array.eq_empty_of_size_eq_zero this
    refine wpR_range hx (fun args w=>enters_run hen args w) fun rl q1 q2 q3 q4 q5 q6 q7=>?_
    have hn0:at_ s.h s.h.length=.non:=by simp [at_]
    obtain⟨r0,e01,e02⟩:∃ r:Reg,r.b=W.heap.size∧r.v=false:=⟨{ b:=W.heap.size,s:=0,w:=0,c:=0 },rfl,rfl⟩
    obtain⟨r1,e11,e12,e13⟩:∃ r:Reg,r.b=W.heap.size+1∧r.v=false∧r.lp=some rl:=⟨{ b:=W.heap.size+1,s:=0,w:=0,c:=0,lp:=some rl },rfl,rfl,rfl⟩
    have hi0:=hi.hv.alloc (B:=.mk) (r:=r0) (o:=.deferred (some [])) hn0 e01 (fun h=>nomatch h) ⟨e02,by rw [e01];exact alloc_at ..⟩
    have hle0:LeA α (α.set s.h.length r0):=Al.set_le (hi.hv.fresh hn0)
    have hn1:at_ (put s.h s.h.length .mk) (s.h.length+1)=.non:=by
     rw [at_put,if_neg (by omega)]
     simp [at_,List.getD_eq_getElem?_getD]
    have hle1:=Al.set_le (r:=r1) (hi0.fresh hn1)
    have hsz:(W.alloc (.deferred (some []))).heap.size=W.heap.size+1:=by
     show(W.heap.push _).size=_
     simp
    have hrl:rl={ rl with state:=.ready,pending:=PE.non.code }:=by
     cases rl
     simp only at q1 q2
     rw [q1,q2];rfl
    have hi1:=hi0.alloc (B:=.rc f s.ts .ready .non) (r:=r1) (o:=.loop rl) hn1 (e11.trans hsz.symm) (fun h=>nomatch h) ⟨e12,rl,e13,by rw [q4,q5,q6];exact hrg,by
     rw [← hrl,e11]
     have:=alloc_at (W.alloc (.deferred (some []))) (.loop rl)
     rw [hsz]at this
     exact this,by rw [q3];exact hi.tn,fun j d x g1 g2=>(hi.ts j d x g1 (by rw [← q3];exact g2)).mono (.refl _) (hle0.trans hle1)⟩
    have hden:∀ (j:Nat) d x,(D.y (s.h.length+1)::cap)[j]?=some d→(#[Value.func (.yield (W.heap.size+1)) #[] #[]]++y)[j]?=some x→Den (tyOf P) I ((α.set s.h.length r0).set (s.h.length+1) r1) d x:=fun j d x g1 g2=>by
     cases j with
     | zero =>
      obtain rfl:D.y (s.h.length+1)=d:=by simpa using g1
      rw [Array.getElem?_append_left (by simp)]at g2
      obtain rfl:Value.func (.yield (W.heap.size+1)) #[] #[]=x:=by simpa using g2
      rw [← e11]
      exact .y Al.set_eq
     | succ j =>
      rw [Array.getElem?_append_right (by simp)]at g2
      exact(hyy j d x (by simpa using g1) (by simpa using g2)).mono (.refl _) (hle0.trans hle1)
    have hlen:(D.y (s.h.length+1)::cap).length=(#[Value.func (.yield (W.heap.size+1)) #[] #[]]++y).size:=by simp [hlb,Nat.add_comm]
    have hc:Calls P gf (#[Value.func (.yield (W.heap.size+1)) #[] #[]]++y) (rangeW W rl) _:=hcall gf _ _ r h1 h2 w0 ms _ I _ _ hi1 hlen hden
    refine hc.mono fun en W2 hh=>?_
    obtain⟨α2,I2,f1,f2,f3,f4⟩:=hh
    cases r with
    | pan d=>cases h3
    | ret d =>
     cases en with
     | panicked c=>exact f4.elim
     | outgrown=>exact f4.elim
     | returned v =>
      dsimp only at h3
      split at h3
      ·rename_i f' ts' st pe hmk hrc
       split at h3
       ·rename_i hc
        obtain⟨rfl,hst⟩:=hc
        have:=ev_pure_eq h3
        cases this
        have ha1:=f1 _ _ (Al.set_eq (α:=α.set s.h.length r0) (n:=s.h.length+1) (r:=r1))
        have ha0:=f1 _ _ (hle1 _ _ (Al.set_eq (α:=α) (n:=s.h.length) (r:=r0)))
        obtain⟨_,L,hL,_,hblk,_⟩:=f3.rcd hrc ha1
        obtain rfl:rl=L:=by rw [e13]at hL;exact Option.some.inj hL
        rw [e11]at hblk
        have hst':st≠.busy:=fun h=>by rw [h]at hst;cases hst
        refine⟨v,st,pe.code,rfl,hst',hblk,?_⟩
        have hi3:=f3.reobj (B:=.dead) (o':=.loop { rl with state:=.exhausted,pending:=pe.code }) ha1 e12 (by rw [hrc];rfl) (by rw [e11];exact hblk) (by intro c t k;exact fun h=>nomatch h) (fun h=>nomatch h) (fun _ h=>nomatch h) trivial
        rw [e11]at hi3
        have hmn:LeA α α2:=(hle0.trans hle1).trans f1
        have hin:Inv P w0 ms ({ ts:=s.ts,h:=put h1 (s.h.length+1) .dead,df:=.mark s.h.length::s.df }:S) α2 I2 (markA W.heap.size a) (W2.putObj (W.heap.size+1) (.loop { rl with state:=.exhausted,pending:=pe.code })):=by
         refine⟨hi3,hi.tn,fun t d x g1 g2=>(hi.ts t d x g1 g2).mono f2 hmn,by simp [markA,hi.dn],fun j f d g1 g2=>?_⟩
         cases j with
         | zero =>
          obtain rfl:Df.mark s.h.length=f:=by simpa using g1
          obtain rfl:({ target:=.collected W.heap.size,args:=#[] }:Deferred)=d:=by simpa [markA]using g2
          exact⟨r0,ha0,by rw [e01]⟩
         | succ j=>exact(hi.df j f d (by simpa using g1) (by simpa [markA]using g2)).mono f2 hmn
        cases pe with
        | non=>exact hQ _ _ _ ⟨α2,I2,hmn,f2,trivial,hin⟩
        | ret=>exact wpR_ret (hQ _ _ _ ⟨α2,I2,hmn,f2,trivial,hin⟩)
        | exit i=>exact wpR_exit (hQ _ _ _ ⟨α2,I2,hmn,f2,rfl,hin⟩)
       cases h3
      cases h3
  cases he
 cases he
end
end Z
namespace Z
def isRec(o:Oper):Bool:=match o.op with
 | .call c=>(match c.callee with
  | .builtin .recover=>o.guard.isNone
  | _=>false)
 | _=>false
def isLd(o:Oper):Bool:=match o.op with
 | .load _ _=>o.guard.isNone
 | _=>false
def planR(pl:Pl)(rd:D):Pl:=fun o vs bs f=>if isRec o=true then .pure (.ok rd [])else pl o vs bs f
def recOk(all:List Oper)(k ir:Nat):Bool:=let an:=ancL all [];decide (ir<k) && (List.range k).all fun j=>match all[j]? with
 | some o=>if j=ir then isRec o else !isRec o && (isLd o || (an.getD j []).contains ir)
 | none=>false
def recAt(l:List Oper):Nat:=(l.findIdx? isRec).getD 0
def regR(op:S→Oper→M (Ex×S))(pl:Pl)(ft:Oper→List D→List Nat)(cut:Array Oper→Nat)(rd:D)(ops:Array Oper)(dr:Bool)(s:S):M (Ex×S):=match dr with
 | false=>(match ops.toList with
  | o::r=>if isRec o=true then evOps op ops r (s.op o.dst rd [])else .bad 240
  | []=>.bad 241)
 | true=>(evD (planR pl rd) ft ops s.h.length (ops.toList.take (cut ops)) 0 s []).bind fun r=>if okD ops (ops.toList.take (cut ops)) r.1 s.ts.length s.h.length=true∧tailOk ops.toList (ops.toList.take (cut ops)).length=true∧recOk ops.toList (ops.toList.take (cut ops)).length (recAt ops.toList)=true then evOps op ops (ops.toList.drop (cut ops)) r.2 else .bad 242
section
variable {P:Program}{E:LId→LSt→M Rd1}{Γ:Cn}{w0:World}{ms:Ms}{h h':Heap}{α α' β:Al}{I I':Gh}{W W':World}{o:Oper}{a a0:Act}{s s':S}{n:Nat}{rn:Option Nat}
def RecR(v:Value)(c0 c1:Frame)(cs:List Frame):Prop:=recoverD (c0::cs)=some (v,c1::cs)∨(recoverD (c0::cs)=none∧v=.nilIface∧c1=c0)
def wpAnyB(P:Program)(ops:Array Oper)(Q:Exit→Act→World→Prop)(ir:Nat)(v:Value):Nat→Array Bool→Act→World→Prop
 | 0,_,_,_=>False
 | fuel+1,listed,a,w=>Region.ready .any ops listed≠[]∧∀ i∈Region.ready .any ops listed,∃ o,ops[i]?=some o ∧
  if i=ir then isRec o=true∧wpAnyIn (FW none) 0 P .any ops Q fuel (listed.setIfInBounds i true) (a.put o.dst v) w
  else isLd o=true∧wpOpIn (FW none) 0 P ops (fun _ _ _=>False) i (wpAnyB P ops Q ir v fuel (listed.setIfInBounds i true)) a w
def wpOpsB(P:Program)(ops:Array Oper)(Q:Exit→Act→World→Prop)(ir:Nat)(v:Value):List Nat→Act→World→Prop
 | [],_,_=>False
 | i::rest,a,w=>∃ o,ops[i]?=some o ∧
  if i=ir then isRec o=true∧wpOpsIn (FW none) 0 P ops Q rest (a.put o.dst v) w
  else isLd o=true∧wpOpIn (FW none) 0 P ops (fun _ _ _=>False) i (wpOpsB P ops Q ir v rest) a w
theorem wpAnyB_sound{ops:Array Oper}{Q:Exit→Act→World→Prop}{ir:Nat}{v:Value}:∀ (fuel t:Nat)(listed:Array Bool)(a:Act)(w:World),wpAnyB P ops Q ir v fuel listed a w→wpOpsB P ops Q ir v (Region.linearise.go .any ops fuel t listed []) a w:=by
 intro fuel
 induction fuel with
 | zero=>exact fun t listed a w h=>h.elim
 | succ fuel ih =>
  intro t listed a w h
  obtain⟨h₀,h₁⟩:=h
  simp only [Region.linearise.go]
  change wpOpsB P ops Q ir v (match (Region.ready .any ops listed)[t % (Region.ready .any ops listed).length]? with
   | some i=>Region.linearise.go .any ops fuel (t / (Region.ready .any ops listed).length) (listed.setIfInBounds i true) [i]
   | none=>[].reverse) a w
  cases hi:(Region.ready .any ops listed)[t % (Region.ready .any ops listed).length]? with
  | none =>
   exfalso
   have hlt:t % (Region.ready .any ops listed).length<(Region.ready .any ops listed).length:=Nat.mod_lt _ (List.length_pos_iff.2 h₀)
   rw [List.getElem?_eq_getElem hlt]at hi
   cases hi
  | some i =>
   simp only []
   rw [linearise_go_acc,List.reverse_singleton,List.singleton_append]
   obtain⟨o,ho,h2⟩:=h₁ i (List.mem_of_getElem? hi)
   refine⟨o,ho,?_⟩
   by_cases hir:i=ir
   ·rw [if_pos hir]at h2 ⊢
    exact⟨h2.1,wpAnyIn_sound _ _ _ _ _ h2.2⟩
   rw [if_neg hir]at h2 ⊢
   exact⟨h2.1,wpOpIn_mono (fun a w=>ih _ _ a w) h2.2⟩
theorem rec_run(h:isRec o=true)(w:World):o.guard=none∧(execOp a.eval o).run P w=.ok .recover w∧∀ c,o.op≠.defer c:=by
 unfold isRec at h
 split at h
 ·rename_i c hop
  obtain⟨cal,ar,at'⟩:=c
  split at h
  ·rename_i hcal
   simp only at hcal
   subst hcal
   refine⟨by simpa using h,?_,fun c hc=>by rw [hop]at hc;cases hc⟩
   unfold execOp
   simp only [hop,resolve,invoke,builtin,Sem.run_bind,Sem.run_pure,Result.andThen_ok]
  cases h
 cases h
theorem ld_run(h:isLd o=true):o.guard=none∧(∀ c,o.op≠.defer c)∧∀ {w:World}{K:Act→World→Prop},o.wpIn (FW none) 0 P a w K (fun _ _ _=>False)→∃ v w',(execOp a.eval o).run P w=.ok (.value v) w'∧K (a.put o.dst v) w':=by
 unfold isLd at h
 split at h
 ·rename_i t x hop
  refine⟨by simpa using h,fun c hc=>(by rw [hop]at hc;cases hc),fun {w K} hw=>?_⟩
  have h2:=hw.2
  rw [show(FW none).round=none from rfl,Oper.semAt_none]at h2
  have hr:(execOp a.eval o).run P w=((Instr.loadAt t (a.eval x)).run P w).andThen fun v w'=>.ok (.value v) w':=by
   unfold execOp
   simp only [hop,Sem.run_bind,Sem.run_pure]
  rw [hr]at h2 ⊢
  cases hl:(Instr.loadAt t (a.eval x)).run P w with
  | ok v w' =>
   rw [hl]at h2
   simp only [Result.andThen_ok]at h2 ⊢
   exact⟨v,w',rfl,h2⟩
  | halt e w' =>
   rw [hl]at h2
   exfalso
   cases e<;>exact h2
 cases h
theorem opsB_run{ops:Array Oper}{Q:Exit→Act→World→Prop}{ir:Nat}{v:Value}:∀ (l:List Nat)(a:Act)(w:World),wpOpsB P ops Q ir v l a w→∀ (b:Frame)(k:List Item)(c0 c1:Frame)(cs:List Frame),b.kind=.deferred→b.roundOf=none→RecR v c0 c1 cs →
 ∃ e a' w',Q e a' w'∧ArrivesIn (Machine.fenced P (FW none)) P (lone (b.atR a (.inRegion ops l::k)) (c0::cs) w) b k (c1::cs) e a' w'
 | [],a,w,h,_,_,_,_,_,_,_,_=>h.elim
 | i::rest,a,w,h,b,k,c0,c1,cs,hb,hro,hrec=>by
  obtain⟨o,ho,h2⟩:=h
  have hfin:∀ v,(b.atR a (.inRegion ops (i::rest)::k)).finish v=b.atR (a.put o.dst v) (.inRegion ops rest::k):=by
   intro v;rw [Frame.finish_atR,ho];rfl
  have h0:(lone (b.atR a (.inRegion ops (i::rest)::k)) (c0::cs) w).fenced P (FW none):=fenced_wide P _
  by_cases hir:i=ir
  ·rw [if_pos hir]at h2
   obtain⟨h3,h4⟩:=h2
   obtain⟨hg,hr,hnd⟩:=rec_run (P:=P) (a:=a) h3 w
   have hw:Region.wanted o (yielded ops a.tmps)=true:=by simp [Region.wanted,hg]
   have hst:=stepGR_op (P:=P) (b:=b) (k:=k) (cs:=c0::cs) (w:=w) (rest:=rest) ho hw
   rw [Oper.semAt_eq _ _ _ hnd]at hst
   obtain⟨e,a',w',hq,harr⟩:=wp_opsIn rest _ w h4 b k (c1::cs) hro trivial (fun _ h=>by simp [FW,Fence.wide]at h)
   have htr:=tryRecover_deferred (show(b.atR a (.inRegion ops (i::rest)::k)).kind=.deferred from hb) (c0::cs)
   refine⟨e,a',w',hq,.of_steps (.one h0 (step_lone_go ?_)) harr⟩
   rw [hst,← hfin]
   rcases hrec with hrec|⟨hrec,rfl,rfl⟩
   ·simp only [Frame.atR,hro]at htr ⊢
    simp [stepG.apply,hr,htr,hrec]
   simp only [Frame.atR,hro]at htr ⊢
   simp [stepG.apply,hr,htr,hrec]
  rw [if_neg hir]at h2
  obtain⟨h3,h4⟩:=h2
  obtain⟨hg,hnd,hrun⟩:=ld_run (P:=P) (a:=a) h3
  have hw:Region.wanted o (yielded ops a.tmps)=true:=by simp [Region.wanted,hg]
  unfold wpOpIn at h4
  rw [ho]at h4
  dsimp only at h4
  rw [if_pos hw]at h4
  obtain⟨v',w1,hr,hk⟩:=hrun h4
  have hst:=stepGR_op (P:=P) (b:=b) (k:=k) (cs:=c0::cs) (w:=w) (rest:=rest) ho hw
  rw [Oper.semAt_eq _ _ _ hnd]at hst
  obtain⟨e,a',w',hq,harr⟩:=opsB_run rest _ w1 hk b k c0 c1 cs hb hro hrec
  refine⟨e,a',w',hq,.of_steps (.one h0 (step_lone_go ?_)) harr⟩
  rw [hst,← hfin]
  simp [stepG.apply,hr]
def okRd:D→Bool
 | .k .nilIface=>true
 | .ifc _ (.k _)|.ifc _ (.v _)=>true
 | _=>false
theorem okRd_ok{d:D}{v:Value}(h:okRd d=true)(hd:Den (tyOf P) I α d v):∀ I' α',Den (tyOf P) I' α' d v:=by
 intro I' α'
 unfold okRd at h
 split at h
 ·cases hd;exact .k rfl
 ·cases hd with
  | ifc hd=>cases hd with
   | k h=>exact .ifc (.k h)
 ·cases hd with
  | ifc hd=>cases hd with
   | v h=>exact .ifc (.v h)
 cases h
theorem planR_ok{pl:Pl}{ft:Oper→List D→List Nat}{rd:D}{v:Value}(hpl:PlS P E Γ none pl ft)(hrd:∀ I α,Den (tyOf P) I α rd v)(o:Oper):(isRec o=false→PlS1 P E Γ none (planR pl rd) ft o)∧(isRec o=true→PlX P E Γ (planR pl rd) ft o fun K a W=>K (a.put o.dst v) W):=by
 refine⟨fun h Q vs f d us h0 he=>hpl o Q vs f d us h0 (by unfold planR at he;rwa [if_neg (by rw [h];simp)]at he),fun h vs f d us h0 he w0 ms α I a W hi hv hf K hK=>?_⟩
 unfold planR at he
 rw [if_pos h]at he
 have:=ev_pure_eq he
 cases this
 exact hK α I v W (.refl _) (.refl _) hi (hrd _ _)
theorem recOk_get{all:List Oper}{k ir:Nat}(h:recOk all k ir=true):ir<k∧∀ j,j<k→∃ o,all[j]?=some o∧((j=ir∧isRec o=true)∨(j≠ir∧isRec o=false∧(isLd o=true∨Anc all ir j))):=by
 simp only [recOk,Bool.and_eq_true,decide_eq_true_eq]at h
 refine⟨h.1,fun j hj=>?_⟩
 have:=List.all_eq_true.1 h.2 j (by simpa using hj)
 cases ho:all[j]? with
 | none=>rw [ho]at this;cases this
 | some o =>
  rw [ho]at this
  dsimp only at this
  refine⟨o,rfl,?_⟩
  by_cases hji:j=ir
  ·rw [if_pos hji]at this;exact .inl ⟨hji,this⟩
  rw [if_neg hji]at this
  simp only [Bool.and_eq_true,Bool.or_eq_true,Bool.not_eq_true']at this
  exact .inr ⟨hji,this.1,this.2.imp id fun h=>ancL_ok all all [] (by simp) (by simp) j ir (by simpa using h)⟩
theorem any_B{pl:Pl}{ft:Oper→List D→List Nat}{base n ir:Nat}{l tl:List Oper}{ef:List Eff}{ss:Nat→S}{Q:Exit→Act→World→Prop}{rd:D}{v:Value}(hpl:PlS P E Γ none pl ft)(hrd:∀ I α,Den (tyOf P) I α rd v)(hrc:recOk (l++tl) l.length ir=true)
 (hr:Run E Γ (planR pl rd) ft (l++tl).toArray base l ef ss) (h3:ss 0=s) (h4:ss l.length=s') (hok:okD (l++tl).toArray l ef n base=true) (htl:tailOk (l++tl) l.length=true) (hb:s.h.length≤base) (hi:Inv P w0 ms s α I a W) (hQ:∀ a' W',Post P w0 ms α I .normal s' .normal a' W'→wpLR none P (l++tl).toArray Q tl a' W') :
 ∀ (fuel:Nat) (listed:Array Bool) (b:Act) (W1:World),listed.size=(l++tl).toArray.size→(listed.toList.filter (! ·)).length≤fuel→Closed (l++tl) (fun i=>listed.getD i false)→(∀ j,l.length≤j→listed.getD j false=false)→listed.getD ir false=false→DI P l ef ss w0 ms α I a (fun i=>listed.getD i false) b W1→wpAnyB P (l++tl).toArray Q ir v fuel listed b W1:=by
 obtain⟨hirl,hget⟩:=recOk_get hrc
 have hback:backOk 0 (l++tl)=true:=by
  simp only [tailOk,Bool.and_eq_true]at htl
  exact htl.1
 have hops:∀ (i:Nat) o,l[i]?=some o→(l++tl).toArray[i]?=some o:=fun i o h=>by
  have:=(List.getElem?_eq_some_iff.1 h).1
  rw [List.getElem?_toArray,List.getElem?_append_left this];exact h
 intro fuel
 induction fuel with
 | zero =>
  intro listed b W1 hs hfu hcl hno hir hd
  exfalso
  have hlt:ir<listed.size:=by rw [hs];simp;omega
  have hf:listed[ir]=false:=by simpa [Array.getD_eq_getD_getElem?,hlt]using hir
  have hm:false∈listed.toList.filter (! ·):=by
   rw [List.mem_filter]
   exact⟨by rw [← hf];exact Array.getElem_mem_toList hlt,rfl⟩
  have:=List.length_pos_of_mem hm
  omega
 | succ fuel ih =>
  intro listed b W1 hs hfu hcl hno hir hd
  refine⟨fun hre=>?_,fun i hi'=>?_⟩
  ·have hall:∀ i,i<l.length→listed.getD i false=true:=by
    intro i
    induction i using Nat.strongRecOn with
    | ind i ih =>
     intro hi
     cases hb:listed.getD i false with
     | true=>rfl
     | false =>
      exfalso
      have hil:i<(l++tl).length:=by simp;omega
      have hm:i∈Region.ready .any (l++tl).toArray listed:=by
       refine mem_ready.2 ⟨getD_in (by rw [hs];simpa using hil) hb,(l++tl)[i],by rw [List.getElem?_toArray];exact List.getElem?_eq_getElem hil,fun e he hbd=>?_⟩
       have:=backOk_get hback (List.getElem?_eq_getElem hil) (mem_preds.2 ⟨e,he,hbd,rfl⟩)
       rw [Nat.zero_add]at this
       exact ih e.on this (by omega)
      rw [hre]at hm
      cases hm
   have:=hall ir hirl
   rw [hir]at this;cases this
  obtain⟨hu,o,ho,hpre⟩:=mem_ready.1 hi'
  have hol:(l++tl)[i]?=some o:=by simpa using ho
  have hil:i<(l++tl).length:=(List.getElem?_eq_some_iff.1 hol).1
  have hci:listed.getD i false=false:=getD_both hu
  have hpreds:∀ p∈preds o,listed.getD p false=true:=fun p hp=>by
   obtain⟨e,he,hb,rfl⟩:=mem_preds.1 hp
   exact hpre e he hb
  have hanc:¬ Anc (l++tl) ir i:=fun h=>by
   have:listed.getD ir false=true:=by
    cases h with
    | one ho2 hp2=>rw [hol]at ho2;cases ho2;exact hpreds _ hp2
    | more ho2 hq2 ha=>rw [hol]at ho2;cases ho2;exact hcl.anc ha (hpreds _ hq2)
   rw [hir]at this;cases this
  have hik:i<l.length:=by
   by_cases h:i<l.length
   ·exact h
   exact absurd (tail_get htl hil (by omega) (by omega)) hanc
  have hol':l[i]?=some o:=by rw [List.getElem?_append_left hik]at hol;exact hol
  have hmask:(fun j=>(listed.setIfInBounds i true).getD j false)=setC (fun j=>listed.getD j false) i:=by
   funext j
   unfold setC
   by_cases e:j=i
   ·subst e
    have hlt:j<listed.size:=by rw [hs];simpa using hil
    simp [Array.getD_eq_getD_getElem?,hlt]
   rw [if_neg e,getD_set_ne false (fun h=>e h.symm)]
  have hcl':Closed (l++tl) (setC (fun j=>listed.getD j false) i):=fun j o' p hj hcj hp=>by
   unfold setC at hcj ⊢
   by_cases e:p=i
   ·rw [if_pos e]
   rw [if_neg e]
   by_cases e2:j=i
   ·subst e2
    rw [hol]at hj;cases hj
    exact hpreds p hp
   rw [if_neg e2]at hcj
   exact hcl j o' p hj hcj hp
  have hcll:Closed l (fun j=>listed.getD j false):=fun j o' p hj hcj hp=>hcl j o' p (by rw [List.getElem?_append_left (List.getElem?_eq_some_iff.1 hj).1];exact hj) hcj hp
  have hfu':((listed.setIfInBounds i true).toList.filter (! ·)).length≤fuel:=by
   have hlt:i<listed.toList.length:=by simp [hs];simpa using hil
   have hf:listed.toList[i]=false:=by
    have hlt':i<listed.size:=by simpa using hlt
    simpa [Array.getD_eq_getD_getElem?,hlt']using hci
   have:=count_set listed.toList i hlt hf
   rw [Array.toList_setIfInBounds]
   omega
  obtain⟨o',ho',hkind⟩:=hget i hik
  rw [hol]at ho';obtain rfl:=Option.some.inj ho'
  refine⟨o,ho,?_⟩
  rcases hkind with ⟨hiir,hrecO⟩|⟨hiir,hnr,hld⟩
  ·rw [if_pos hiir]
   refine⟨hrecO,?_⟩
   have hst:=draw_stepX ((planR_ok hpl hrd o).2 hrecO) hops hr hok (by rw [h3];exact hb) (by rw [h3];exact hi.tn) hcll hol' hci hpreds hd (K:=fun a' W'=>DI P l ef ss w0 ms α I a (setC (fun j=>listed.getD j false) i) a' W') fun a' W' h=>h
   have hg:o.guard=none:=(rec_run (P:=P) (a:=b) hrecO W1).1
   rw [if_pos (by simp [Region.wanted,hg])]at hst
   refine draw_any (c0:=setC (fun j=>listed.getD j false) i) hmask.symm (fun j oj hj hcj=>(planR_ok hpl hrd oj).1 ?_) hr h3 h4 hok htl hb hi hQ (by simpa using hs) hfu' hcl' (fun j hj=>by rw [setC_ne (by omega)];exact hno j hj) hst
   have hjl:=(List.getElem?_eq_some_iff.1 hj).1
   obtain⟨oj',hoj',hkj⟩:=hget j hjl
   rw [List.getElem?_append_left hjl,hj]at hoj'
   obtain rfl:=Option.some.inj hoj'
   rcases hkj with ⟨rfl,_⟩|⟨_,hkj,_⟩
   ·rw [← hiir]at hcj
    rw [show setC (fun j=>listed.getD j false) i i=true from setC_eq]at hcj;cases hcj
   exact hkj
  rw [if_neg hiir]
  refine⟨hld.resolve_right hanc,?_⟩
  refine draw_step ((planR_ok hpl hrd o).1 hnr) hops hr hok (by rw [h3];exact hb) (by rw [h3];exact hi.tn) hcll hol' hci hpreds hd fun a' W' hd'=>?_
  refine ih _ a' W' (by simpa using hs) hfu' (by rw [hmask];exact hcl') (fun j hj=>?_) ?_ (by rw [hmask];exact hd')
  ·have:=congrFun hmask j
   rw [show(listed.setIfInBounds i true).getD j false=_ from this,setC_ne (by omega)];exact hno j hj
  ·have:=congrFun hmask ir
   rw [show(listed.setIfInBounds i true).getD ir false=_ from this,setC_ne (fun h=>hiir h.symm)];exact hir
theorem regR_ok{op:S→Oper→M (Ex×S)}{pl:Pl}{cut:Array Oper→Nat}{id:Nat}{ops:Array Oper}{dr:Bool}{e:Ex}{rd:D}{v:Value}(hm:P.follows .mixedOrders=true)(hpl:PlS P E Γ none pl ftC)(hop:∀ s o e s',Ev E Γ (Ex×S) (op s o) (e,s')→OpSd P none o s e s')(hrd:∀ I α,Den (tyOf P) I α rd v)
 (he:Ev E Γ (Ex×S) (regR op pl ftC cut rd ops dr s) (e,s')) (hi:Inv P w0 ms s α I a W) (b:Frame) (k:List Item) (c0 c1:Frame) (cs:List Frame) (hb:b.kind=.deferred) (hro:b.roundOf=none) (hrec:RecR v c0 c1 cs) :
 ∃ x a' W',Post P w0 ms α I e s' x a' W'∧ArrivesIn (Machine.fenced P (FW none)) P (lone (b.atR a (.code (.region id ops dr)::k)) (c0::cs) W) b k (c1::cs) x a' W':=by
 unfold regR at he
 cases dr with
 | false =>
  dsimp only at he
  split at he
  ·rename_i o r hl
   split at he
   ·rename_i hrc
    have hin:=hi.op (us:=[]) (.refl _) (.refl _) hi.hv (hrd I α) o.dst
    have hw:=evOps_ok hop r _ e s' he w0 ms α I _ W hin (fun x a' W'=>Post P w0 ms α I e s' x a' W') fun x a' W' hp=>hp
    have hat:∀ j,(o::r)[j]?=ops[0+j]?:=fun j=>by rw [Nat.zero_add,← Array.getElem?_toList,hl]
    have hrw:wpOpsIn (FW none) 0 P ops (fun x a' W'=>Post P w0 ms α I e s' x a' W') (List.range' 1 r.length) (a.put o.dst v) W:=by
     rw [wpOpsIn_eq_wpListIn r 1 (fun j=>by have:=hat (j+1);rw [show 1+j=0+(j+1) by omega,← this];simp)]
     exact hw
    have hsz:List.range ops.size=0::List.range' 1 r.length:=by
     rw [List.range_eq_range',← Array.length_toList,hl];rfl
    obtain⟨x,a',W',hq,harr⟩:=opsB_run (P:=P) (ops:=ops) (ir:=0) (v:=v) (0::List.range' 1 r.length) a W ⟨o,by have:=hat 0;simpa using this.symm,by rw [if_pos rfl];exact⟨hrc,hrw⟩⟩ b k c0 c1 cs hb hro hrec
    refine⟨x,a',W',hq,.of_steps (.one (fenced_wide P _) stepR_region) ?_⟩
    rw [hsz];exact harr
   cases he
  cases he
 | true =>
  obtain⟨⟨ef,s1⟩,h1,h2⟩:=ev_bind he
  dsimp only at h2
  split at h2
  ·rename_i hc
   have hops:(ops.toList.take (cut ops)++ops.toList.drop (cut ops)).toArray=ops:=by rw [List.take_append_drop,Array.toArray_toList]
   have hl:ops.toList.take (cut ops)++ops.toList.drop (cut ops)=ops.toList:=List.take_append_drop ..
   generalize ops.toList.take (cut ops)=l at h1 hc hops hl
   generalize ops.toList.drop (cut ops)=tl at h2 hops hl
   rw [← hl]at hc
   subst hops
   obtain⟨ss,ef',q1,q2,q3,q4,q5⟩:=evD_tr l 0 s [] ef s1 h1
   rw [List.nil_append]at q2
   subst q2
   have hr:Run E Γ (planR pl rd) ftC (l++tl).toArray s.h.length l ef ss:=⟨q1,fun j o e g1 g2=>by have:=q5 j o e g1 g2;rwa [Nat.zero_add]at this⟩
   have hz:(fun i=>(Array.replicate (l++tl).toArray.size false).getD i false)=fun _=>false:=funext fun i=>getD_replicate_false _ _
   have hB:=any_B hpl hrd hc.2.2 hr q3 q4 hc.1 hc.2.1 (Nat.le_refl _) hi (Q:=fun x a' W'=>Post P w0 ms α I e s' x a' W') (fun a' W' hp=>by
    obtain⟨α',I',g1,g2,_,g3⟩:=hp
    exact evOps_ok hop tl s1 e s' h2 w0 ms α' I' a' W' g3 _ fun x a'' W'' hp'=>hp'.le g1 g2) (l++tl).toArray.size (Array.replicate (l++tl).toArray.size false) a W.drew (by simp) (by rw [Array.toList_replicate];exact Nat.le_trans (List.length_filter_le _ _) (by simp)) (by rw [hz];exact fun j o p _ hc _=>nomatch hc) (fun j _=>getD_replicate_false _ _) (getD_replicate_false _ _) (by rw [hz];exact DI.init hr q3 hi)
   obtain⟨x,a',W',hq,harr⟩:=opsB_run _ a W.drew (wpAnyB_sound _ (W.tape W.drawn (.order b.fn id)) _ _ _ hB) b k c0 c1 cs hb hro hrec
   refine⟨x,a',W',hq,.of_steps (.one (fenced_wide P _) stepR_region_draw) ?_⟩
   simp only [Region.schedule,hm,Bool.true_or,if_true]
   exact harr
  cases h2
end
end Z
namespace Z
structure Yh where
 tag:Nat
 run:Yl
def yh0:Yh:=⟨0,fun _ _ _=>.bad 250⟩
structure Cf where
 base:Caller
 find:FuncId→Nat→Find
 cut:Array Oper→Nat
 pf:FuncId→Bool
 qf:FuncId→Bool
 ff:FuncId→Bool
 fuel:FuncId→Nat
noncomputable def kitR(P:Program)(C:Cf)(call:Caller)(yl:Yl):Kit where
 op:=opC P (pcall P C.pf (fcall C.ff 128 call)) yl false
 dr:=drK (opC P (pcall P C.pf (fcall C.ff 128 call)) yl false) (planC P C.pf C.qf call) ftC C.cut
 lo:=fun _ _=>none
 rg:=fun _ _ _ _ _=>.bad 251
 fuel:=C.fuel 0
noncomputable def yhF(P:Program)(C:Cf)(call:Caller)(yl:Yl)(f:FuncId):Yh:=⟨f,ylF P (kitR P C call yl) f⟩
noncomputable def kitF(P:Program)(C:Cf)(callY:Yh→Caller)(yh:Yh)(f:FuncId):Kit where
 op:=opC P (pcall P C.pf (fcall C.ff 128 (callY yh))) yh.run true
 dr:=drK (opC P (pcall P C.pf (fcall C.ff 128 (callY yh))) yh.run true) (planC P C.pf C.qf (callY yh)) ftC C.cut
 lo:=loK P (C.find f yh.tag)
 rg:=fun g _ _ _ s=>rgF1 P f (fun yl=>callY ⟨f,yl⟩) (kitR P C (callY yh) yh.run) g s
 fuel:=C.fuel f
def rdOf:Option D→D
 | none=>.k .nilIface
 | some d=>d
noncomputable def dfrF(P:Program)(C:Cf)(call:Caller)(yl:Yl):Dfr:=fun f args m h=>match P.funcs[f]? with
 | none=>.bad 252
 | some fn=>match fn.body with
  | none=>.bad 253
  | some c=>if okRd (rdOf m)=true then(match c with
   | .region _ ops dr=>(regR (kitR P C call yl).op (planC P C.pf C.qf call) ftC C.cut (rdOf m) ops dr ⟨args++List.replicate (fn.ntmps-args.length) .any,h,[]⟩).bind fun r=>(match r.1 with
    | .normal=>if r.2.df.isEmpty=true then(resM P r.2 fn.results.toList).bind fun _=>.pure r.2.h else .bad 254
    | _=>.bad 255)
   | .seq (.region _ ops dr) c2=>(regR (kitR P C call yl).op (planC P C.pf C.qf call) ftC C.cut (rdOf m) ops dr ⟨args++List.replicate (fn.ntmps-args.length) .any,h,[]⟩).bind fun r=>(match r.1 with
    | .normal=>(evC (kitR P C call yl) c2 r.2).bind fun q=>(match q.1 with
     | .normal=>if q.2.df.isEmpty=true then(resM P q.2 fn.results.toList).bind fun _=>.pure q.2.h else .bad 254
     | _=>.bad 256)
    | _=>.bad 255)
   | _=>.bad 257)else .bad 258
noncomputable def callT(P:Program)(C:Cf):List FuncId→Yh→Caller
 | [],_=>C.base
 | g::r,yh=>fun f args h=>if f=g then evF P (kitF P C (callT P C r) yh g) (dfrF P C (callT P C r yh) yh.run) g args h else callT P C r yh f args h
def Named1(E:LId→LSt→M Rd1)(P:Program)(K:Kit)(find:Find)(f:FuncId)(c:Code):Prop:=(∀ s id g,find c s=some (id,g)→∀ L,E id L=g.round P K c L)∧∀ x ps sg bd,c=.rangeFunc x ps sg bd→rgOf P f=some (ps,sg,bd)
def NamedT(E:LId→LSt→M Rd1)(P:Program)(C:Cf):List FuncId→Yh→Prop
 | [],_=>True
 | g::r,yh=>(∀ fn c,P.funcs[g]?=some fn→fn.body=some c→∀ d∈loopsOf c,Named1 E P (kitF P C (callT P C r) yh g) (C.find g yh.tag) g d)∧NamedT E P C r yh∧(rgOf P g≠none→NamedT E P C r (yhF P C (callT P C r yh) yh.run g))
section
variable {P:Program}{E:LId→LSt→M Rd1}{Γ:Cn}{w0:World}{ms:Ms}{h h':Heap}{α α' β:Al}{I I':Gh}{W W':World}{o:Oper}{a a0:Act}{s s':S}{n:Nat}{rn:Option Nat}
def CallOk(P:Program)(E:LId→LSt→M Rd1)(Γ:Cn)(call:Caller):Prop:=∀ g args h r h',Ev E Γ (Rs×Heap) (call g args h) (r,h')→CallSd P g args h r h'
def YlOk(P:Program)(E:LId→LSt→M Rd1)(Γ:Cn)(yl:Yl):Prop:=∀ n args h b h',Ev E Γ (Bool×Heap) (yl n args h) (b,h')→YlSd P n args h b h'
theorem kitR_ok{C:Cf}{call:Caller}{yl:Yl}(hm:P.follows .mixedOrders=true)(hcall:CallOk P E Γ call)(hyl:YlOk P E Γ yl)(rn:Option Nat):(kitR P C call yl).Ok P E Γ (fun _=>True) rn where
 op:=fun s o e s' he=>opC_ok (dfs:=false) (pcall_ok (pf:=C.pf) (fcall_ok (qf:=C.ff) (f0:=128) hcall)) hyl (fun h=>nomatch h) he
 dr:=fun id ops s e s' he=>drK_ok hm (planC_ok hcall) (fun s o e s' he=>opC_ok (dfs:=false) (pcall_ok (pf:=C.pf) (fcall_ok (qf:=C.ff) (f0:=128) hcall)) hyl (fun h=>nomatch h) he) he
 lo:=fun c s m e s' _ _ hm _=>nomatch hm
 rg:=fun g ps sg body s e s' _ _ _ he=>by cases he
theorem kitF_ok{C:Cf}{callY:Yh→Caller}{yh:Yh}{f:FuncId}(hm:P.follows .mixedOrders=true)(hcall:CallOk P E Γ (callY yh))(hyl:YlOk P E Γ yh.run)(hcy:rgOf P f≠none→∀ yl,yl=ylF P (kitR P C (callY yh) yh.run) f→YlOk P E Γ yl→CallOk P E Γ (callY ⟨f,yl⟩)):(kitF P C callY yh f).Ok P E Γ (Named1 E P (kitF P C callY yh f) (C.find f yh.tag) f) none where
 op:=fun s o e s' he=>opC_ok (dfs:=true) (pcall_ok (pf:=C.pf) (fcall_ok (qf:=C.ff) (f0:=128) hcall)) hyl (fun _=>rfl) he
 dr:=fun id ops s e s' he=>drK_ok hm (planC_ok hcall) (fun s o e s' he=>opC_ok (dfs:=true) (pcall_ok (pf:=C.pf) (fcall_ok (qf:=C.ff) (f0:=128) hcall)) hyl (fun _=>rfl) he) he
 lo:=fun c s m e s' hG hb hm he=>loK_ok hG.1 hb hm he
 rg:=fun g ps sg body s e s' hG _ _ he=>by
  have hrg:=hG.2 g ps sg body rfl
  exact rgF1_ok (callY:=fun yl=>callY ⟨f,yl⟩) (kitR_ok hm hcall hyl) (hcy (by rw [hrg];exact fun h=>nomatch h) _ rfl (ylF_ok (kitR_ok hm hcall hyl))) hrg he
theorem ModeR.recR{m:Option D}{c:Frame}(hm:ModeR P I α m c.mode)(cs:List Frame):∃ v c1 u',RecR v c c1 cs∧c1={ c with mode:=u' }∧settle u'=.returning∧Den (tyOf P) I α (rdOf m) v:=by
 generalize hu:c.mode=u at hm
 cases m with
 | none =>
  cases u with
  | returning=>exact⟨.nilIface,c,.returning,.inr ⟨by simp [recoverD,hu],rfl,rfl⟩,by rw [← hu],rfl,.k rfl⟩
  | _=>exact hm.elim
 | some d =>
  cases u with
  | panicking ch =>
   obtain⟨v,rfl,hd⟩:=hm
   exact⟨v,{ c with mode:=.panicking [{ v,recovered:=true }] },.panicking [{ v,recovered:=true }],.inl (by simp [recoverD,hu]),rfl,rfl,hd⟩
  | _=>exact hm.elim
theorem dfrF_ok{C:Cf}{call:Caller}{yl:Yl}(hm:P.follows .mixedOrders=true)(hcall:CallOk P E Γ call)(hyl:YlOk P E Γ yl):∀ g args m h h',Ev E Γ Heap (dfrF P C call yl g args m h) h'→DfrSd P g args m h h':=by
 intro f args m h h' he w0 ms α I W xs u hi hl hx hmode
 have hK:=kitR_ok (C:=C) hm hcall hyl none
 unfold dfrF at he
 cases hf:P.funcs[f]? with
 | none=>rw [hf]at he;cases he
 | some fn =>
  rw [hf]at he
  dsimp only at he
  cases hc:fn.body with
  | none=>rw [hc]at he;cases he
  | some c =>
   rw [hc]at he
   dsimp only at he
   split at he
   ·rename_i hok
    refine⟨trivial,fun c0 cs hu hroom=>?_⟩
    subst hu
    obtain⟨v,c1,u',hrec,rfl,hset,hdv⟩:=hmode.recR cs
    have hrd:∀ I α,Den (tyOf P) I α (rdOf m) v:=okRd_ok hok hdv
    let b:Frame:={ (default:Frame)with fn:=f,kind:=.deferred,roundOf:=none }
    have henter:Frame.enter P f xs .deferred=b.atR { tmps:=xs++Array.replicate (fn.ntmps-xs.size) undef,defers:=[] } [.code c]:=by
     simp [Frame.enter,Frame.atR,hf,hc,b]
    have hin:Inv P w0 ms (⟨args++List.replicate (fn.ntmps-args.length) .any,h,[]⟩:S) α I { tmps:=xs++Array.replicate (fn.ntmps-xs.size) undef,defers:=[] } W:=by
     refine⟨hi,by simp [hl],fun t d x g1 g2=>?_,rfl,fun j f d g1 g2=>by simp at g1⟩
     by_cases ht:t<args.length
     ·have g1:(args++List.replicate (fn.ntmps-args.length) D.any)[t]?=some d:=g1
      have g2:(xs++Array.replicate (fn.ntmps-xs.size) undef)[t]?=some x:=g2
      rw [List.getElem?_append_left ht]at g1
      rw [Array.getElem?_append_left (by omega)]at g2
      exact hx t d x g1 g2
     have g1:(args++List.replicate (fn.ntmps-args.length) D.any)[t]?=some d:=g1
     rw [List.getElem?_append_right (by omega),List.getElem?_replicate]at g1
     split at g1
     ·cases g1;exact .any
     cases g1
    have fin:∀ (s1:S) (a1:Act) (W1:World),s1.df.isEmpty=true→Ev E Γ Heap ((resM P s1 fn.results.toList).bind fun _=>.pure s1.h) h'→Post P w0 ms α I .normal s1 .normal a1 W1→StepsIn (Machine.fenced P (FW none)) P (lone (b.atR { tmps:=xs++Array.replicate (fn.ntmps-xs.size) undef,defers:=[] } [.code c]) (c0::cs) W) (lone (b.atR a1 []) ({ c0 with mode:=u' }::cs) W1) →
     ∃ e u'' w' fr,(∃ α' I' v,LeA α α'∧LeI I I'∧HInv P (tyOf P) w0 ms h' α' I' w'∧e=Ending.returned v∧settle u''=.returning)∧ComesIn (Machine.fenced P (FW none)) P (lone (Frame.enter P f xs .deferred) (c0::cs) W) (lone fr ({ c0 with mode:=u'' }::cs) w') e∧fr.kind=.deferred∧fr.fn=f∧fr.going P w' e:=by
     intro s1 a1 W1 hdf hres hp hst
     obtain⟨α',I',g1,g2,_,g3⟩:=hp
     obtain⟨l,q1,q2⟩:=ev_bind hres
     have:=ev_pure_eq q2
     subst this
     obtain⟨v',hv,hd⟩:=resD_ok g3 q1
     have hd0:a1.defers=[]:=by
      have:=g3.dn
      rw [List.isEmpty_iff.1 hdf]at this
      exact List.eq_nil_of_length_eq_zero this.symm
     rw [henter]
     exact⟨.returned v',u',W1,_,⟨α',I',v',g1,g2,g3.hv,rfl,hset⟩,StepsIn.trans hst (.one (fenced_wide P _) (stepR_end rfl)),rfl,rfl,rfl,hd0,fn,hf,hv⟩
    split at he
    ·rename_i id ops dr
     obtain⟨⟨e1,s1⟩,h1,h2⟩:=ev_bind he
     cases e1 with
     | normal =>
      dsimp only at h2
      split at h2
      ·rename_i hdf
       obtain⟨x,a1,W1,hp,harr⟩:=regR_ok (id:=id) hm (planC_ok hcall) hK.op hrd h1 hin b [] c0 _ cs rfl rfl hrec
       have hp':=hp
       obtain⟨_,_,_,_,hx3,_⟩:=hp'
       cases x with
       | normal=>exact fin s1 a1 W1 hdf h2 hp harr
       | _=>exact hx3.elim
      cases h2
     | _=>cases h2
    ·rename_i id ops dr c2
     obtain⟨⟨e1,s1⟩,h1,h2⟩:=ev_bind he
     cases e1 with
     | normal =>
      dsimp only at h2
      obtain⟨⟨e2,s2⟩,h3,h4⟩:=ev_bind h2
      cases e2 with
      | normal =>
       dsimp only at h4
       split at h4
       ·rename_i hdf
        obtain⟨x,a1,W1,hp,harr⟩:=regR_ok (id:=id) hm (planC_ok hcall) hK.op hrd h1 hin b [.code c2] c0 _ cs rfl rfl hrec
        obtain⟨α1,I1,f1,f2,f3,f4⟩:=hp
        cases x with
        | normal =>
         obtain⟨y,a2,W2,hp2,harr2⟩:=evC_ok hK c2 s1 .normal s2 (allL_of fun _ _=>trivial) h3 w0 ms α1 I1 a1 W1 f4 (fun x a' W'=>Post P w0 ms α1 I1 .normal s2 x a' W') (fun x a' W' hp=>hp) b [] ({ c0 with mode:=u' }::cs) rfl trivial (fun _ h=>by simp [FW,Fence.wide]at h)
         have hp3:=hp2
         obtain⟨_,_,_,_,hx3,_⟩:=hp3
         cases y with
         | normal=>exact fin s2 a2 W2 hdf h4 (hp2.le f1 f2) (.head (fenced_wide P _) stepR_seq (StepsIn.trans harr harr2))
         | _=>exact hx3.elim
        | _=>exact f3.elim
       cases h4
      | _=>cases h4
     | _=>cases h2
    cases he
   cases he
theorem callT_ok{C:Cf}(hm:P.follows .mixedOrders=true)(hbase:CallOk P E Γ C.base):∀ (l:List FuncId)(yh:Yh),YlOk P E Γ yh.run→NamedT E P C l yh→CallOk P E Γ (callT P C l yh)
 | [],_,_,_=>hbase
 | f::r,yh,hyl,hN=>by
  intro g args h d h' he
  have hr:=callT_ok hm hbase r yh hyl hN.2.1
  have he:Ev E Γ (Rs×Heap) (if g=f then evF P (kitF P C (callT P C r) yh f) (dfrF P C (callT P C r yh) yh.run) f args h else callT P C r yh g args h) (d,h'):=he
  split at he
  ·rename_i hgf
   subst hgf
   cases hf:P.funcs[g]? with
   | none=>unfold evF at he;rw [hf]at he;cases he
   | some fn =>
    cases hc:fn.body with
    | none=>unfold evF at he;rw [hf]at he;dsimp only at he;rw [hc]at he;cases he
    | some c=>exact evF_ok (kitF_ok hm hr hyl fun hrg yl hy hyo=>by
     subst hy
     exact callT_ok hm hbase r _ hyo (hN.2.2 hrg)) (dfrF_ok hm hr hyl) hf hc (allL_of (hN.1 fn c hf hc)) he
  exact hr g args h d h' he
theorem NamedT.nil{C:Cf}{yh:Yh}:NamedT E P C [] yh:=trivial
theorem NamedT.cons{C:Cf}{yh:Yh}{g:FuncId}{r:List FuncId}(h1:∀ fn c,P.funcs[g]?=some fn→fn.body=some c→∀ d∈loopsOf c,Named1 E P (kitF P C (callT P C r) yh g) (C.find g yh.tag) g d)(h2:NamedT E P C r yh)(h3:rgOf P g≠none→NamedT E P C r (yhF P C (callT P C r yh) yh.run g)):NamedT E P C (g::r) yh:=⟨h1,h2,h3⟩
theorem yh0_ok:YlOk P E Γ yh0.run:=fun _ _ _ _ _ he=>by cases he
end
end Z
namespace Z
mutual
def D.vv:D→D
 | .k x=>.v x
 | .agg l=>.agg (vvL l)
 | .tup l=>.tup (vvL l)
 | .mem t l=>.mem t (vvL l)
 | .sl kn t l tk=>.sl kn t (vvL l) tk
 | d=>d
def vvL:List D→List D
 | []=>[]
 | d::l=>d.vv::vvL l
end
theorem vvL_map:∀ (l:List D),vvL l=l.map D.vv
 | []=>rfl
 | d::l=>by rw [vvL,vvL_map l];rfl
theorem vv_cells(d:D):d.vv.cells=d.cells.map D.vv:=by
 cases d<;>first|rfl|(show vvL _=_;exact vvL_map _)
theorem vv_one(d:D):d.vv.one=d.one:=by cases d<;>rfl
theorem vv_pure{d:D}(h:d.pure=true):d.vv.pure=true:=by
 cases d with
 | sl kn t l tk=>cases tk<;>first|exact h|cases h
 | _=>first|exact h|rfl
theorem vv_ck{c:CK}{d:D}(h:CkOk c d):CkOk c d.vv:=by
 cases c with
 | i k=>obtain⟨n,rfl|rfl⟩:=h<;>exact⟨n,.inr rfl⟩
 | b=>obtain⟨n,rfl|rfl⟩:=h<;>exact⟨n,.inr rfl⟩
 | s=>obtain⟨n,rfl|rfl⟩:=h<;>exact⟨n,.inr rfl⟩
 | sl t=>obtain⟨kn,l,tk,rfl⟩:=h;exact⟨kn,vvL l,tk,rfl⟩
 | o=>exact(vv_one d).trans h
theorem vv_el{ty:Ty}{d:D}(h:ElOk ty d):ElOk ty d.vv:=by
 obtain⟨h1,h2,h3⟩:=h
 refine⟨?_,fun j c e q1 q2=>?_,fun e he=>?_⟩
 ·unfold SzOk at h1 ⊢
  split at h1
  ·obtain⟨l,rfl,hl⟩:=h1
   exact⟨vvL l,rfl,by rw [vvL_map,List.length_map];exact hl⟩
  refine⟨fun l hl=>?_,h1.2⟩
  cases d<;>first|exact absurd rfl (h1.1 _)|cases hl
 ·rw [vv_cells,List.getElem?_map]at q2
  obtain⟨e0,q3,rfl⟩:=Option.map_eq_some_iff.1 q2
  exact vv_ck (h2 j c e0 q1 q3)
 rw [vv_cells]at he
 obtain⟨e0,q1,rfl⟩:=List.mem_map.1 he
 exact vv_pure (h3 e0 q1)
theorem Den.vv{T:TypeId→Option Ty}{I:Gh}{α:Al}{d:D}{x:Value}(h:Den T I α d x):Den T I α d.vv x:=by
 induction h with
 | k h=>exact .v h
 | v h=>exact .v h
 | agg hl _ ih =>
  refine .agg (by rw [vvL_map,List.length_map];exact hl) fun j d x h1 h2=>?_
  rw [vvL_map,List.getElem?_map]at h1
  obtain⟨d0,h3,rfl⟩:=Option.map_eq_some_iff.1 h1
  exact ih j d0 x h3 h2
 | tup hl _ ih =>
  refine .tup (by rw [vvL_map,List.length_map];exact hl) fun j d x h1 h2=>?_
  rw [vvL_map,List.getElem?_map]at h1
  obtain⟨d0,h3,rfl⟩:=Option.map_eq_some_iff.1 h1
  exact ih j d0 x h3 h2
 | mem g ht he hg _ ih =>
  refine .mem g ht (fun d hd=>?_) (by rw [vvL_map,List.length_map];exact hg) fun i j d e h1 h2=>?_
  ·rw [vvL_map]at hd
   obtain⟨d0,q1,rfl⟩:=List.mem_map.1 hd
   exact vv_el (he d0 q1)
  rw [vvL_map,List.getElem?_map]at h1
  obtain⟨d0,h3,rfl⟩:=Option.map_eq_some_iff.1 h1
  rw [vv_cells,List.getElem?_map]at h2
  obtain⟨e0,h4,rfl⟩:=Option.map_eq_some_iff.1 h2
  exact ih i j d0 e0 h3 h4
 | @sl _ kn t l tk A c hc hk hm ih =>
  have hl:(vvL l).length=l.length:=by rw [vvL_map,List.length_map]
  have:=Den.sl (kn:=kn) (t:=t) (l:=vvL l) (tk:=tk) (A:=A) (c:=c) (by rw [hl];exact hc) (by rw [hl];exact hk) fun hn=>ih (fun e=>hn (by rw [e];rfl))
  rw [hl]at this
  exact this
 | ep g hg h ih=>exact .ep g hg h
 | p hr=>exact .p hr
 | px hr=>exact .px hr
 | ar hr hw hc hA=>exact .ar hr hw hc hA
 | fn ha hb hx hy ih1 ih2=>exact .fn ha hb hx hy
 | mp hr=>exact .mp hr
 | ifc h ih=>exact .ifc h
 | y hr=>exact .y hr
 | any=>exact .any
inductive RS where
 | one (k:SK0)|tup (l:List SK0)
def D.parts:D→List D
 | .tup l=>l
 | d=>[d]
def etaR:RS→D→D
 | .one k,d=>etaK0 k d
 | .tup l,d=>.tup (etaLL etaK0 l d.parts 0)
def canR:RS→D→Option D
 | .one k,d=>canK0 k d
 | .tup ks,.tup l=>match canL canK0 ks l with
  | some m=>some (.tup m)
  | none=>none
 | _,_=>none
theorem canR_ok{T:TypeId→Option Ty}{I:Gh}{α:Al}{sh:RS}{d e:D}{x:Value}(h:canR sh d=some e)(hd:Den T I α d x):Den T I α e x:=by
 unfold canR at h
 split at h
 ·exact canK0_ok h hd
 ·split at h
  ·rename_i h1
   cases h
   obtain⟨h2,h3⟩:=canL_get h1
   cases hd with
   | tup hl hd =>
    refine .tup (by omega) fun j d x g1 g2=>?_
    obtain⟨c,d0,g3,g4⟩:=h3 j d g1
    exact canK0_ok g4 (hd j d0 x g3 g2)
  cases h
 cases h
structure Con(P:Program) where
 f:FuncId
 ash:List SK0
 sh:RS
 rel:List D→D→Prop
 ok:∀ args d,rel args d→∀ h,CallSd P f args h (.ret (etaR sh d)) h
structure CRow where
 f:FuncId
 ash:List SK0
 sh:RS
def Con.row{P:Program}(c:Con P):CRow:=⟨c.f,c.ash,c.sh⟩
def D.vk1:D→D
 | .k x=>.v x
 | .sl true t l tk=>.sl true t (vvL l) tk
 | d=>d
def D.vk:D→D
 | .agg l=>.agg (l.map D.vk1)
 | d=>d.vk1
theorem Den.vk1{T:TypeId→Option Ty}{I:Gh}{α:Al}{d:D}{x:Value}(h:Den T I α d x):Den T I α d.vk1 x:=by
 unfold D.vk1
 split
 ·cases h with|k h=>exact .v h
 ·exact Den.vv h
 exact h
theorem Den.vk{T:TypeId→Option Ty}{I:Gh}{α:Al}{d:D}{x:Value}(h:Den T I α d x):Den T I α d.vk x:=by
 unfold D.vk
 split
 ·cases h with
  | agg hl hd =>
   refine .agg (by simpa using hl) fun j d x h1 h2=>?_
   rw [List.getElem?_map]at h1
   obtain⟨y,h3,rfl⟩:=Option.map_eq_some_iff.1 h1
   exact(hd j y x h3 h2).vk1
 exact h.vk1
def cons(P:Program)(l:List CRow):Caller:=fun f args h=>match l.find? (fun c=>c.f == f)with
 | some c=>(match canL canK0 c.ash (args.map D.vk)with
  | some a=>.call f a [] fun d _=>.pure (.ret (etaR c.sh d),h)
  | none=>.bad 211)
 | none=>.bad 210
def consΓ{P:Program}(l:List (Con P)):Cn:=fun f args _ out=>∃ c,l.find? (fun c=>c.f == f)=some c∧∃ d,c.rel args d∧out=.ret d []
section
variable {P:Program}{E:LId→LSt→M Rd1}{Γ:Cn}{h h':Heap}{β:Type}
theorem find_map{l:List (Con P)}{f:FuncId}:((l.map Con.row).find? fun c=>c.f == f)=(l.find? fun c=>c.f == f).map Con.row:=by
 induction l with
 | nil=>rfl
 | cons c l ih =>
  simp only [List.map_cons,List.find?_cons,ih]
  show(match c.f == f with|true=>some c.row|false=>_)=_
  cases c.f == f<;>rfl
theorem CallSd.sub{f:FuncId}{args a:List D}{r:Rs}(hl:a.length=args.length)(hs:∀ (j:Nat) d e,args[j]?=some d→a[j]?=some e→∀ {I α x},Den (tyOf P) I α d x→Den (tyOf P) I α e x)(h1:CallSd P f a h r h'):CallSd P f args h r h':=fun w0 ms α I W xs q1 q2 q3 =>
 h1 w0 ms α I W xs q1 (by omega) fun j d x k1 k2=>by
  have hj:j<args.length:=by rw [← hl];exact(List.getElem?_eq_some_iff.1 k1).1
  exact hs j _ d (List.getElem?_eq_getElem hj) k1 (q3 j _ x (List.getElem?_eq_getElem hj) k2)
theorem CallSd.can{f:FuncId}{ks:List SK0}{args a:List D}{r:Rs}(hc:canL canK0 ks (args.map D.vk)=some a)(h1:CallSd P f a h r h'):CallSd P f args h r h':=fun w0 ms α I W xs q1 q2 q3=>by
 obtain⟨g1,g2⟩:=canL_get hc
 rw [List.length_map]at g1
 refine h1 w0 ms α I W xs q1 (by omega) fun j d x k1 k2=>?_
 obtain⟨c,d0,k3,k4⟩:=g2 j d k1
 rw [List.getElem?_map]at k3
 obtain⟨d1,k5,rfl⟩:=Option.map_eq_some_iff.1 k3
 exact canK0_ok k4 (q3 j d1 x k5 k2).vk
theorem cons_ok{l:List (Con P)}{m:List CRow}(hl:m=l.map Con.row):CallOk P E (consΓ l) (cons P m):=by
 intro g args h r h' he
 unfold cons at he
 rw [hl,find_map]at he
 cases hf:l.find? fun c=>c.f == g with
 | none=>rw [hf]at he;cases he
 | some c =>
  rw [hf]at he
  dsimp only [Option.map_some]at he
  split at he
  ·rename_i a ha
   cases he with
   | call h1 h2 =>
    have:=ev_pure_eq h2
    cases this
    obtain⟨c',h3,d,h4,h5⟩:=h1
    rw [hf]at h3;obtain rfl:=Option.some.inj h3
    cases h5
    have hg:c.f=g:=by simpa using List.find?_some hf
    subst hg
    exact(c.ok a _ h4 h).can ha
  cases he
theorem to_pure{b:β}{Q:β→Prop}(h:Q b):To E Γ (.pure b) Q:=⟨b,.pure,h⟩
theorem to_br{c:Bool}{x y:M β}{Q:β→Prop}(h1:c=true→To E Γ x Q)(h2:c=false→To E Γ y Q):To E Γ (.br c x y) Q:=by
 cases hc:c with
 | true=>obtain⟨r,h3,h4⟩:=h1 hc;exact⟨r,.brt rfl h3,h4⟩
 | false=>obtain⟨r,h3,h4⟩:=h2 hc;exact⟨r,.brf rfl h3,h4⟩
theorem to_need{c:Bool}{m:M β}{Q:β→Prop}(hc:c=true)(h:To E Γ m Q):To E Γ (.need c m) Q:=by
 obtain⟨r,h3,h4⟩:=h;exact⟨r,.need hc h3,h4⟩
theorem to_get{l:List D}{i:Int}{k:D→M β}{Q:β→Prop}{d:D}(h0:0≤i)(hd:l[i.toNat]?=some d)(h:To E Γ (k d) Q):To E Γ (.get l i k) Q:=by
 obtain⟨r,h3,h4⟩:=h;exact⟨r,.get h0 hd h3,h4⟩
theorem to_call{f:FuncId}{args:List D}{ins:List (TypeId×D)}{k:D→List D→M β}{Q:β→Prop}{d:D}{o:List D}(hc:Γ f args ins (.ret d o))(h:To E Γ (k d o) Q):To E Γ (.call f args ins k) Q:=by
 obtain⟨r,h3,h4⟩:=h;exact⟨r,.call hc h3,h4⟩
def nthK(k0 k1 k2:LSt→M β):Nat→LSt→M β
 | 0=>k0
 | 1=>k1
 | 2=>k2
 | _=>fun _=>.bad 260
theorem to_loop{id:LId}{L L':LSt}{k0 k1 k2:LSt→M β}{Q:β→Prop}{j:Nat}(hl:Lp E Γ id L j L')(h:To E Γ (nthK k0 k1 k2 j L') Q):To E Γ (.loop id L k0 k1 k2) Q:=by
 obtain⟨r,h3,h4⟩:=h
 match j,hl,h3 with
 | 0,hl,h3=>exact⟨r,.loop0 hl h3,h4⟩
 | 1,hl,h3=>exact⟨r,.loop1 hl h3,h4⟩
 | 2,hl,h3=>exact⟨r,.loop2 hl h3,h4⟩
 | _+3,_,h3=>cases h3
theorem lp_of{id:LId}{σ:Type}(st:σ→LSt)(Inv:σ→Prop)(μ:σ→Nat)(R:σ→Nat→LSt→Prop)(hrd:∀ x,Inv x→To E Γ (E id (st x)) fun r=>(∃ y,r=(none,st y)∧Inv y∧μ y<μ x∧∀ j L,R y j L→R x j L)∨∃ j L,r=(some j,L)∧R x j L):∀ x,Inv x→∃ j L,Lp E Γ id (st x) j L∧R x j L:=by
 have key:∀ n x,μ x=n→Inv x→∃ j L,Lp E Γ id (st x) j L∧R x j L:=by
  intro n
  induction n using Nat.strongRecOn with
  | ind n ih =>
   intro x hn hx
   obtain⟨r,h1,h2⟩:=hrd x hx
   rcases h2 with ⟨y,rfl,h3,h4,h5⟩|⟨j,L,rfl,h3⟩
   ·obtain⟨j,L,h6,h7⟩:=ih (μ y) (by omega) y rfl h3
    exact⟨j,L,.next h1 h6,h5 j L h7⟩
   exact⟨j,L,.done h1,h3⟩
 exact fun x hx=>key _ x rfl hx
def Wp(E:LId→LSt→M Rd1)(Γ:Cn){β:Type}:M β→(β→Prop)→Prop
 | .pure b,Q=>Q b
 | .br c x y,Q=>(c=true→Wp E Γ x Q)∧(c=false→Wp E Γ y Q)
 | .need c m,Q=>c=true∧Wp E Γ m Q
 | .get l i k,Q=>0≤i∧∃ d,l[i.toNat]?=some d∧Wp E Γ (k d) Q
 | .call f a ins k,Q=>∃ d o,Γ f a ins (.ret d o)∧Wp E Γ (k d o) Q
 | .callp f a ins k _,Q=>∃ d o,Γ f a ins (.ret d o)∧Wp E Γ (k d o) Q
 | .loop id L k0 k1 k2,Q=>(∃ L',Lp E Γ id L 0 L'∧Wp E Γ (k0 L') Q)∨(∃ L',Lp E Γ id L 1 L'∧Wp E Γ (k1 L') Q)∨∃ L',Lp E Γ id L 2 L'∧Wp E Γ (k2 L') Q
 | .bad _,_=>False
theorem to_wp:∀ {m:M β}{Q:β→Prop},Wp E Γ m Q→To E Γ m Q
 | .pure b,Q,h=>to_pure h
 | .br c x y,Q,h=>to_br (fun hc=>to_wp (h.1 hc)) fun hc=>to_wp (h.2 hc)
 | .need c m,Q,h=>to_need h.1 (to_wp h.2)
 | .get l i k,Q,h=>by obtain⟨h0,d,h1,h2⟩:=h;exact to_get h0 h1 (to_wp h2)
 | .call f a ins k,Q,h=>by obtain⟨d,o,h1,h2⟩:=h;exact to_call h1 (to_wp h2)
 | .callp f a ins k kp,Q,h=>by
  obtain⟨d,o,h1,h2⟩:=h
  obtain⟨r,h3,h4⟩:=to_wp h2
  exact⟨r,.callr h1 h3,h4⟩
 | .loop id L k0 k1 k2,Q,h=>by
  rcases h with ⟨L',h1,h2⟩|⟨L',h1,h2⟩|⟨L',h1,h2⟩
  ·exact to_loop (j:=0) h1 (to_wp h2)
  ·exact to_loop (j:=1) h1 (to_wp h2)
  exact to_loop (j:=2) h1 (to_wp h2)
 | .bad _,Q,h=>h.elim
theorem lp_up{id:LId}{σ:Type}(st:Nat→σ→LSt)(n:Nat)(Inv:Nat→σ→Prop)(R:Nat→LSt→Prop)(hr:∀ i s,i<n→Inv i s→Wp E Γ (E id (st i s)) fun r=>(∃ s',r=(none,st (i+1) s')∧Inv (i+1) s')∨∃ j L,r=(some j,L)∧R j L)
 (he:∀ s,Inv n s→Wp E Γ (E id (st n s)) fun r=>∃ j L,r=(some j,L)∧R j L) {s:σ} (h:Inv 0 s):∃ j L,Lp E Γ id (st 0 s) j L∧R j L:=by
 have:=lp_of (E:=E) (Γ:=Γ) (id:=id) (σ:=Nat×σ) (fun x=>st x.1 x.2) (fun x=>x.1≤n∧Inv x.1 x.2) (fun x=>n-x.1) (fun _=>R) (fun x hx=>?_) (0,s) ⟨Nat.zero_le _,h⟩
 ·exact this
 obtain⟨i,s⟩:=x
 obtain⟨hi,hs⟩:=hx
 dsimp only at hi hs ⊢
 by_cases hin:i=n
 ·subst hin
  obtain⟨r,h1,h2⟩:=to_wp (he s hs)
  exact⟨r,h1,.inr h2⟩
 obtain⟨r,h1,h2⟩:=to_wp (hr i s (by omega) hs)
 refine⟨r,h1,h2.imp (fun h2=>?_) fun h=>h⟩
 obtain⟨s',h3,h4⟩:=h2
 exact⟨(i+1,s'),h3,⟨by omega,h4⟩,by omega,fun _ _ h=>h⟩
end
end Z
namespace Z
abbrev nI (n:Nat):Int:=(n:Int)
noncomputable def PP:Program:=Tryz.prog
def isCallO(o:Oper):Bool:=match o.op with
 | .call c=>match c.callee with
  | .builtin _=>false
  | _=>true
 | _=>false
def pureF(pf:FuncId→Bool)(o:Oper):Bool:=match o.op with
 | .call c=>match c.callee with
  | .value (.func f)=>pf f
  | _=>false
 | _=>false
def cutP(pf:FuncId→Bool)(ops:Array Oper):Nat:=match ops.toList.findIdx? (fun o=>isCallO o && !pureF pf o)with
 | some i=>i
 | none=>ops.size
def fstReg:Code→Nat
 | .seq x _=>fstReg x
 | .block _ c=>fstReg c
 | .scope c=>fstReg c
 | .loop c=>fstReg c
 | .region i _ _=>i
 | _=>0
structure LRow where
 f:FuncId
 tag:Nat
 reg:Nat
 id:LId
 cfg:LCfg
def findT(l:List LRow):FuncId→Nat→Find:=fun f tag c _=>match l.find? fun t=>t.f == f && t.tag == tag && t.reg == fstReg c with
 | some t=>some (t.id,t.cfg)
 | none=>none
noncomputable def bodyOf(f:FuncId):Code:=match PP.funcs[f]? with
 | some fn=>fn.body.getD .skip
 | none=>.skip
noncomputable def lcode(f:FuncId)(k:Nat):Code:=(loopsOf (bodyOf f)).getD k .skip
noncomputable def cff(fu:FuncId→Nat)(fs qs gs:List FuncId)(l:List LRow)(m:List CRow):Cf where
 base:=cons PP m
 find:=findT l
 pf:=fun f=>fs.contains f
 qf:=fun f=>qs.contains f
 ff:=fun f=>gs.contains f
 cut:=cutP fun f=>fs.contains f || qs.contains f
 fuel:=fu
noncomputable abbrev cfq (fu:FuncId→Nat) (fs qs:List FuncId):List LRow→List CRow→Cf:=cff fu fs qs []
noncomputable abbrev cfu (fu:FuncId→Nat) (fs:List FuncId):List LRow→List CRow→Cf:=cfq fu fs []
noncomputable abbrev cf:List FuncId→List LRow→List CRow→Cf:=cfu fun _=>12
noncomputable def callR(C:Cf)(l:List FuncId)(f:FuncId)(args:List D):M Rs:=(callT PP C l yh0 f args []).bind fun q=>.pure (q.1.fz PP q.2)
noncomputable def plainB(f:FuncId):Bool:=(loopsOf (bodyOf f)).isEmpty && (rgOf PP f).isNone
theorem wrap_i64{x:Int}(h1 : -9223372036854775808≤x)(h2:x≤9223372036854775807):IntKind.i64.wrap x=x:=by
 rw [IntKind.wrap_i64];omega
section
variable {E:LId→LSt→M Rd1}{Γ:Cn}{C:Cf}{l r:List FuncId}{f:FuncId}{args:List D}{d:D}{yh:Yh}
theorem follows_mixed:PP.follows .mixedOrders=true:=by kernel_rfl
def Res(sh:RS)(d:D)(r:Rs):Prop:=∃ d0 d1,r=.ret d0∧canR sh d0=some d1∧d1.vv=d
theorem con_of(sh:RS)(hbase:CallOk PP E Γ C.base)(hN:NamedT E PP C l yh0)(ha:args.all (ltB 8 0)=true)(hs:d.strp=d)(hd:ltB 8 0 d=true)(h:To E Γ (callR C l f args) (Res sh d))(h0:Heap):CallSd PP f args h0 (.ret d) h0:=by
 obtain⟨r,h1,d0,d1,rfl,hc,rfl⟩:=h
 obtain⟨⟨q,h2⟩,h3,h4⟩:=ev_bind h1
 have h5:=ev_pure_eq h4
 dsimp only at h5
 have h6:CallSd PP f args [] q h2:=callT_ok (P:=PP) follows_mixed hbase l yh0 yh0_ok hN f args [] q h2 h3
 refine CallSd.alone (P:=PP) (r':=.ret d1.vv) h6 ha (fun {I α e} he=>?_) hd h0
 rw [← h5]at he
 cases e<;>first|exact(canR_ok hc he).vv|exact he.elim
theorem res_kb{b x:Bool}(h:b=x):Res (.one (.one .b)) (.v (.bool x)) (.ret (.k (.bool b))):=⟨_,_,rfl,rfl,by rw [h];rfl⟩
theorem res_vb{b x:Bool}(h:b=x):Res (.one (.one .b)) (.v (.bool x)) (.ret (.v (.bool b))):=⟨_,_,rfl,rfl,by rw [h];rfl⟩
theorem res_ki{b x:Int}(h:b=x):Res (.one (.one (.i .i64))) (.v (.int .i64 x)) (.ret (.k (.int .i64 b))):=⟨_,_,rfl,rfl,by rw [h];rfl⟩
theorem loops_of{fn:Func}{c:Code}(hf:PP.funcs[f]?=some fn)(hc:fn.body=some c):loopsOf c=loopsOf (bodyOf f):=by
 unfold bodyOf;rw [hf];dsimp only;rw [hc];rfl
theorem named_plain(h:plainB f=true)(hr:NamedT E PP C r yh):NamedT E PP C (f::r) yh:=by
 unfold plainB at h
 obtain⟨h1,h2⟩:=(Bool.and_eq_true _ _).mp h
 have h3:loopsOf (bodyOf f)=[]:=List.isEmpty_iff.1 h1
 have h4:rgOf PP f=none:=Option.isNone_iff_eq_none.1 h2
 refine .cons (fun fn c hf hc d hd=>?_) hr fun hn=>absurd h4 hn
 have h5:=loops_of (f:=f) hf hc
 rw [h3]at h5
 rw [h5]at hd
 exact absurd hd List.not_mem_nil
theorem named_all(h:∀ f∈l,plainB f=true):NamedT E PP C l yh:=by
 induction l with
 | nil=>exact NamedT.nil (P:=PP)
 | cons f r ih=>exact named_plain (h f (List.mem_cons_self ..)) (ih fun x hx=>h x (List.mem_cons_of_mem _ hx))
def noRg:Code→Bool
 | .rangeFunc ..=>false
 | _=>true
theorem named_loops(cs:List Code)(hcs:loopsOf (bodyOf f)=cs)(hn:cs.all noRg=true)(hrg:rgOf PP f=none)(h:∀ c∈cs,∀ s id g,C.find f yh.tag c s=some (id,g)→∀ L,E id L=g.round PP (kitF PP C (callT PP C r) yh f) c L)(hr:NamedT E PP C r yh):NamedT E PP C (f::r) yh:=by
 refine .cons (fun fn c hf hc d hd=>?_) hr fun hn=>absurd hrg hn
 rw [loops_of hf hc,hcs]at hd
 refine⟨h d hd,fun x ps sg bd he=>?_⟩
 have:=List.all_eq_true.1 hn d hd
 rw [he]at this
 cases this
theorem named_loop{id0:LId}{g0:LCfg}{c0:Code}(hcs:loopsOf (bodyOf f)=[c0])(hn:noRg c0=true)(hrg:rgOf PP f=none)(hf:∀ s,C.find f yh.tag c0 s=some (id0,g0))(hE:∀ L,E id0 L=g0.round PP (kitF PP C (callT PP C r) yh f) c0 L)(hr:NamedT E PP C r yh):NamedT E PP C (f::r) yh :=
 named_loops [c0] hcs (by rw [List.all_cons,hn];rfl) hrg (fun c hc s id g h L=>by
  have hc:c=c0:=List.mem_singleton.1 hc
  rw [hc,hf s]at h
  have h:=Prod.mk.inj (Option.some.inj h)
  rw [← h.1,← h.2,hc]
  exact hE L) hr
theorem named_none(hn:(loopsOf (bodyOf f)).all noRg=true)(hrg:rgOf PP f=none)(hf:∀ c s,C.find f yh.tag c s=none)(hr:NamedT E PP C r yh):NamedT E PP C (f::r) yh :=
 named_loops _ rfl hn hrg (fun c _ s id g h L=>by rw [hf c s]at h;cases h) hr
def rgd:Code→Option (Array Tmp×Code×Code)
 | .rangeFunc _ ps sg bd=>some (ps,sg,bd)
 | _=>none
theorem named_range{c0:Code}(hcs:loopsOf (bodyOf f)=[c0])(hf:∀ c s,C.find f yh.tag c s=none)(hrg:rgOf PP f=rgd c0)(hr:NamedT E PP C r yh)(hr2:NamedT E PP C r (yhF PP C (callT PP C r yh) yh.run f)):NamedT E PP C (f::r) yh:=by
 refine NamedT.cons (P:=PP) (fun fn c hf' hc d hd=>?_) hr fun _=>hr2
 rw [loops_of hf' hc,hcs]at hd
 have hd:d=c0:=List.mem_singleton.1 hd
 refine⟨fun s id g h L=>(by rw [hf d s]at h;cases h),fun x ps sg bd he=>?_⟩
 rw [hrg,← hd,he]
 rfl
noncomputable def freeB(f:FuncId):Bool:=(loopsOf (bodyOf f)).all noRg && (rgOf PP f).isNone
theorem named_free(hf:∀ f t c s,C.find f t c s=none)(h:∀ f∈l,freeB f=true):NamedT E PP C l yh:=by
 induction l with
 | nil=>exact NamedT.nil (P:=PP)
 | cons f r ih =>
  have h1:=h f (List.mem_cons_self ..)
  unfold freeB at h1
  obtain⟨h2,h3⟩:=(Bool.and_eq_true _ _).mp h1
  exact named_none h2 (Option.isNone_iff_eq_none.1 h3) (fun c s=>hf f yh.tag c s) (ih fun x hx=>h x (List.mem_cons_of_mem _ hx))
end
end Z
namespace Z
abbrev iv (n:Int):D:=.v (.int .i64 n)
abbrev bv (b:Bool):D:=.v (.bool b)
abbrev ik (n:Int):D:=.k (.int .i64 n)
abbrev bk (b:Bool):D:=.k (.bool b)
abbrev w64 (n:Int):Int:=IntKind.i64.wrap n
theorem w64_id{x:Int}(h1 : -9223372036854775808≤x)(h2:x≤9223372036854775807):w64 x=x:=wrap_i64 h1 h2
abbrev b1 (t:TypeId) (d:D):Blk:=.arr true t 1 [d]
abbrev ls (a:List D) (b:List Blk):LSt:=⟨a,b,[]⟩
abbrev vb (L:LSt) (i:Nat):D:=(L.bs.getD i .dead).els.getD 0 .any
abbrev vd (L:LSt) (i:Nat):D:=L.ds.getD i .any
abbrev sl (t:TypeId) (l:List D):D:=.sl false t l .non
structure Le where
 no:Int
 ho:Int
 un:Int
 deriving DecidableEq
structure Ca where
 bar:Int
 pr:Int
 deriving DecidableEq
structure Rp where
 self:Int
 le:List Le
 ca:List Ca
 od:List Bool
structure En where
 is:Bool
 le:Le
 ca:Ca
def dLe(l:Le):D:=.agg [iv l.no,iv l.ho,iv l.un]
def dCa(c:Ca):D:=.agg [iv c.bar,iv c.pr]
def dRp(r:Rp):D:=.agg [iv r.self,.sl false 64 (r.le.map dLe) .non,.sl false 66 (r.ca.map dCa) .non,.sl false 4 (r.od.map bv) .non]
def dEn(x:En):D:=.agg [bv x.is,iv x.le.no,iv x.le.ho,iv x.le.un,iv x.ca.bar,iv x.ca.pr]
def kLe:SK0:=.row [.i .i64,.i .i64,.i .i64]
def kCa:SK0:=.row [.i .i64,.i .i64]
def kRp:SK0:=.row [.i .i64,.sl 64,.sl 66,.sl 4]
def kEn:SK0:=.row [.b,.i .i64,.i .i64,.i .i64,.i .i64,.i .i64]
def kI:SK0:=.one (.i .i64)
def kB:SK0:=.one .b
abbrev sI:SK:=.el kI
def E0:LId→LSt→M Rd1:=fun _ _=>.bad 0
end Z
namespace Z
def gIdx:LCfg:=⟨19,10,10,⟨[(0,.el (.one (.sl 64))),(1,.fix (.fn (.func 55) [] [.p 1 0 0])),(7,sI),(8,sI)],[(0,.each 27 1 [.el kRp]),(1,.each 3 1 [sI])]⟩,[(.exit 0,⟨[],[(0,.each 27 1 [.el kRp]),(1,.each 3 1 [sI])]⟩),(.ret,⟨[(4,sI)],[(0,.each 27 1 [.el kRp]),(1,.each 3 1 [sI])]⟩)]⟩
noncomputable def cMine:Cf:=cf [28] [⟨54,0,2,(54,0),gIdx⟩] []
noncomputable def eMine:LId→LSt→M Rd1:=fun id L=>gIdx.round PP (kitF PP cMine (callT PP cMine [55]) yh0 54) (lcode 54 0) L
noncomputable def cFol:Cf:=cf [12,14,27] [] []
noncomputable def cMay:Cf:=cf [12,15,28] [] [⟨28,[kRp,kI],.one kB⟩]
noncomputable def cWith:Cf:=cf [16,29,30,31] [] []
theorem t_fol(r:Rp)(l:Le):callR cFol [14,12,27] 14 [dRp r,dLe l]=(M.br (l.1 == nI (List.length (List.map dLe r.2))) (M.br (decide ((0:Int)≤l.2)) (M.br (decide (l.2≤(1:Int))) (M.br (decide (nI (List.length (List.map dLe r.2))>(0:Int))) (M.get (List.map dLe r.2) (w64 (nI (List.length (List.map dLe r.2))-(1:Int))) fun d0=>M.br (decide (l.3>D.int (D.cell d0 2))) (M.pure (Rs.ret (bv (decide (l.3≤(4096:Int)))))) (M.pure (Rs.ret (bk false)))) (M.br (decide (l.3>(0:Int))) (M.pure (Rs.ret (bv (decide (l.3≤(4096:Int)))))) (M.pure (Rs.ret (bk false))))) (M.pure (Rs.ret (bk false)))) (M.pure (Rs.ret (bk false)))) (M.pure (Rs.ret (bk false)))):=by kernel_rfl
theorem t_mine(r:Rp)(b:Int):callR cMine [28,54,55] 28 [dRp r,iv b]=(M.loop (54,0) (ls [sl 64 (List.map dLe r.2),D.fn (Fn.func 55) [] [D.p 1 0 0],iv (nI (List.length (List.map dLe r.2))),iv (0:Int)] [b1 27 (dRp r),b1 3 (iv b)]) (fun L0=>M.br (decide (D.int (vb L0 1)≥(0:Int))) (M.pure (Rs.ret (bk false))) (M.pure (Rs.ret (bk false)))) (fun L0=>M.br (decide (D.int (vb L0 1)≥(0:Int))) (M.br (decide (D.int (vd L0 0)≥(0:Int))) (M.get (D.items (D.cell (vb L0 0) 1)) (D.int (vd L0 0)) fun d1=>M.pure (Rs.ret (bv (D.int (D.cell d1 1) == D.int (D.cell (vb L0 0) 0))))) (M.pure (Rs.ret (bk false)))) (M.pure (Rs.ret (bk false)))) fun L0=>M.bad 154):=by kernel_rfl
theorem rd_mine(r:Rp)(l:List D)(b n i:Int):eMine (54,0) ⟨[.sl false 64 l .non,.fn (.func 55) [] [.p 1 0 0],iv n,iv i],[.arr true 27 1 [dRp r],.arr true 3 1 [iv b]],[]⟩=(M.br (decide (i<n)) (M.get l i fun d0=>M.br (decide (b<D.int (D.cell d0 2))) (M.pure (some 1,(ls [iv i] [b1 27 (dRp r),b1 3 (iv b)]))) (M.pure (none,(ls [sl 64 l,D.fn (Fn.func 55) [] [D.p 1 0 0],iv n,iv (w64 (i+(1:Int)))] [b1 27 (dRp r),b1 3 (iv b)])))) (M.pure (some 0,(ls [] [b1 27 (dRp r),b1 3 (iv b)])))):=by kernel_rfl
theorem t_may(r:Rp)(c:Ca):callR cMay [15,12] 15 [dRp r,dCa c]=(M.call 28 [dRp r,iv c.1] [] fun d0 o0=>M.br (D.bool d0) (M.br (nI (List.length (List.map dCa r.3)) == (0:Int)) (M.br (decide ((1:Int)≤c.2)) (M.pure (Rs.ret (bv (decide (c.2≤(8:Int)))))) (M.pure (Rs.ret (bk false)))) (M.get (List.map dCa r.3) (w64 (nI (List.length (List.map dCa r.3))-(1:Int))) fun d1=>M.br (decide (c.1>D.int (D.cell d1 0))) (M.br (decide ((1:Int)≤c.2)) (M.pure (Rs.ret (bv (decide (c.2≤(8:Int)))))) (M.pure (Rs.ret (bk false)))) (M.pure (Rs.ret (bk false))))) (M.pure (Rs.ret (bk false)))):=by kernel_rfl
theorem t_with(r:Rp)(x:En):callR cWith [16,29,30,31] 16 [dRp r,dEn x]=(M.br x.1 (M.need (decide ((0:Int)≤(0:Int)∧(0:Int)≤nI (List.length (List.map dLe r.2))∧nI (List.length (List.map dLe r.2))≤nI (List.length (List.map dLe r.2))∧nI (List.length (List.map dLe r.2))=nI (List.length (List.map dLe r.2)))) (M.need (decide (List.length (List.take (Int.toNat (nI (List.length (List.map dLe r.2)))) (List.map dLe r.2))+(1:Nat)≤1099511627776)) (M.need (decide ((0:Int)≤(0:Int)∧(0:Int)≤nI (List.length (List.map bv r.4))∧nI (List.length (List.map bv r.4))≤nI (List.length (List.map bv r.4))∧nI (List.length (List.map bv r.4))=nI (List.length (List.map bv r.4)))) (M.need (decide (List.length (List.take (Int.toNat (nI (List.length (List.map bv r.4)))) (List.map bv r.4))+(1:Nat)≤1099511627776)) (M.pure (Rs.ret (D.agg [iv r.1,D.sl false 64 (List.take (Int.toNat (nI (List.length (List.map dLe r.2)))) (List.map dLe r.2)++[D.agg [iv (En.le x).1,iv (En.le x).2,iv (En.le x).3]]) (Tok.tip 99),sl 66 (List.map dCa r.3),D.sl false 4 (List.take (Int.toNat (nI (List.length (List.map bv r.4)))) (List.map bv r.4)++[bv x.1]) (Tok.tip 196)]))))))) (M.need (decide ((0:Int)≤(0:Int)∧(0:Int)≤nI (List.length (List.map dCa r.3))∧nI (List.length (List.map dCa r.3))≤nI (List.length (List.map dCa r.3))∧nI (List.length (List.map dCa r.3))=nI (List.length (List.map dCa r.3)))) (M.need (decide (List.length (List.take (Int.toNat (nI (List.length (List.map dCa r.3)))) (List.map dCa r.3))+(1:Nat)≤1099511627776)) (M.need (decide ((0:Int)≤(0:Int)∧(0:Int)≤nI (List.length (List.map bv r.4))∧nI (List.length (List.map bv r.4))≤nI (List.length (List.map bv r.4))∧nI (List.length (List.map bv r.4))=nI (List.length (List.map bv r.4)))) (M.need (decide (List.length (List.take (Int.toNat (nI (List.length (List.map bv r.4)))) (List.map bv r.4))+(1:Nat)≤1099511627776)) (M.pure (Rs.ret (D.agg [iv r.1,sl 64 (List.map dLe r.2),D.sl false 66 (List.take (Int.toNat (nI (List.length (List.map dCa r.3)))) (List.map dCa r.3)++[D.agg [iv (En.ca x).1,iv (En.ca x).2]]) (Tok.tip 99),D.sl false 4 (List.take (Int.toNat (nI (List.length (List.map bv r.4)))) (List.map bv r.4)++[bv x.1]) (Tok.tip 196)])))))))):=by kernel_rfl
def endP(l:List Le):Int:=match l.getLast? with
 | some x=>x.un
 | none=>0
def folP(r:Rp)(l:Le):Bool:=l.no == (r.le.length:Int) && decide (0≤l.ho) && decide (l.ho≤1) && decide (endP r.le<l.un) && decide (l.un≤4096)
def mineP(r:Rp)(b:Int):Bool:=decide (0≤b) && match r.le.find? fun l=>decide (b<l.un)with
 | some l=>l.ho == r.self
 | none=>false
def mayP(r:Rp)(c:Ca):Bool:=mineP r c.bar && (match r.ca.getLast? with
 | some d=>decide (d.bar<c.bar)
 | none=>true) && decide (1≤c.pr) && decide (c.pr≤8)
def withP(r:Rp)(x:En):Rp:=match x.is with
 | true=>{ r with le:=r.le++[x.le],od:=r.od++[x.is] }
 | false=>{ r with ca:=r.ca++[x.ca],od:=r.od++[x.is] }
def Sm(r:Rp):Prop:=r.le.length<1000000∧r.ca.length<1000000∧r.od.length<1000000
theorem get_last{α:Type}{l:List α}(f:α→D){i:Int}(hl:0<l.length)(hs:l.length<1000000)(hi:i=IntKind.i64.wrap ((l.length:Int)-1)):0≤i∧∃ x,l.getLast?=some x∧(l.map f)[i.toNat]?=some (f x):=by
 rw [wrap_i64 (by omega) (by omega)]at hi
 subst hi
 refine⟨by omega,l[l.length-1],by rw [List.getLast?_eq_getElem?,List.getElem?_eq_getElem],?_⟩
 rw [List.getElem?_map,show((l.length:Int)-1).toNat=l.length-1 by omega,List.getElem?_eq_getElem (by omega)]
 rfl
theorem len_map{α:Type}{l:List α}{f:α→D}:(l.map f).length=l.length:=List.length_map ..
theorem fol_ok(r:Rp)(l:Le)(hr:Sm r)(h:Heap):CallSd PP 14 [dRp r,dLe l] h (.ret (bv (folP r l))) h:=by
 refine con_of (E:=E0) (Γ:=consΓ (P:=PP) []) (C:=cFol) (l:=[14,12,27]) (.one kB) (cons_ok rfl) (named_all (by intro f hf;simp only [List.mem_cons,List.not_mem_nil,or_false]at hf;rcases hf with rfl|rfl|rfl<;>kernel_rfl)) rfl rfl rfl ?_ h
 rw [t_fol]
 simp only [len_map,nI]
 refine to_br (fun h1=>to_br (fun h2=>to_br (fun h3=>to_br (fun h4=>?_) fun h4=>?_) fun h3=>?_) fun h2=>?_) fun h1=>?_
 ·have h4':0<r.le.length:=by simpa using h4
  obtain⟨g1,x,g2,g3⟩:=get_last dLe h4' hr.1 rfl
  refine to_get g1 g3 (to_br (fun h5=>?_) fun h5=>?_)
  ·refine to_pure (res_vb ?_)
   have h5':decide (x.un<l.un)=true:=h5
   simp only [folP,endP,g2,h1,h2,h3,h5',Bool.true_and]
  refine to_pure (res_kb ?_)
  have h5':decide (x.un<l.un)=false:=h5
  simp only [folP,endP,g2,h5',Bool.and_false,Bool.false_and]
 ·have h4':r.le=[]:=by simpa using h4
  refine to_br (fun h5=>?_) fun h5=>?_
  ·refine to_pure (res_vb ?_)
   have h5':decide ((0:Int)<l.un)=true:=h5
   simp only [folP,endP,h4',List.getLast?_nil,h2,h3,h5',Bool.true_and,Bool.and_true]
   rw [h4']at h1
   simp only [h1,Bool.true_and]
  refine to_pure (res_kb ?_)
  have h5':decide ((0:Int)<l.un)=false:=h5
  simp only [folP,endP,h4',List.getLast?_nil,h5',Bool.and_false,Bool.false_and]
 ·exact to_pure (res_kb (by simp only [folP,h3,Bool.and_false,Bool.false_and]))
 ·exact to_pure (res_kb (by simp only [folP,h2,Bool.and_false,Bool.false_and]))
 exact to_pure (res_kb (by simp only [folP,h1,Bool.and_false,Bool.false_and]))
abbrev bMine (r:Rp) (b:Int):List Blk:=[.arr true 27 1 [dRp r],.arr true 3 1 [iv b]]
theorem named_mine:NamedT eMine PP cMine [28,54,55] yh0 :=
 named_plain (by kernel_rfl) (named_loop (id0:=(54,0)) (by kernel_rfl) (by kernel_rfl) (by kernel_rfl) (fun s=>by kernel_rfl) (fun L=>rfl) (named_plain (by kernel_rfl) (NamedT.nil (P:=PP))))
theorem mine_lp(r:Rp)(b:Int)(hr:Sm r):∃ j L,Lp eMine (consΓ (P:=PP) []) (54,0) ⟨[.sl false 64 (r.le.map dLe) .non,.fn (.func 55) [] [.p 1 0 0],iv r.le.length,iv ((0:Nat):Int)],bMine r b,[]⟩ j L∧((j=0∧L=⟨[],bMine r b,[]⟩∧(r.le.find? fun l=>decide (b<l.un))=none)∨∃ k x,j=1∧L=⟨[iv ((k:Nat):Int)],bMine r b,[]⟩∧r.le[k]?=some x∧(r.le.find? fun l=>decide (b<l.un))=some x):=by
 refine lp_up (σ:=Unit) (fun i _=>⟨[.sl false 64 (r.le.map dLe) .non,.fn (.func 55) [] [.p 1 0 0],iv r.le.length,iv ((i:Nat):Int)],bMine r b,[]⟩) r.le.length (fun i _=>(r.le.find? fun l=>decide (b<l.un))=(r.le.drop i).find? fun l=>decide (b<l.un)) _ (fun i _ hi h=>?_) (fun _ h=>?_) (s:=()) (by rw [List.drop_zero])
 ·rw [rd_mine]
  have hx:=List.getElem?_eq_getElem hi
  rw [List.drop_eq_getElem_cons hi,List.find?_cons]at h
  have hd:(r.le.map dLe)[((i:Nat):Int).toNat]?=some (dLe r.le[i]):=by rw [Int.toNat_natCast,List.getElem?_map,hx];rfl
  refine⟨fun _=>⟨by omega,_,hd,fun h2=>?_,fun h2=>?_⟩,fun h1=>absurd h1 (by simp;omega)⟩
  ·have h2:decide (b<r.le[i].un)=true:=h2
   rw [h2]at h
   exact .inr ⟨1,_,rfl,.inr ⟨i,r.le[i],rfl,rfl,hx,h⟩⟩
  have h2:decide (b<r.le[i].un)=false:=h2
  rw [h2]at h
  refine .inl ⟨(),?_,h⟩
  rw [w64_id (by omega) (by have:=hr.1;omega)]
  rfl
 rw [rd_mine]
 rw [List.drop_length]at h
 exact⟨fun h1=>absurd h1 (by simp),fun _=>⟨0,_,rfl,.inl ⟨rfl,rfl,h⟩⟩⟩
theorem mine_ok(r:Rp)(b:Int)(hr:Sm r)(h:Heap):CallSd PP 28 [dRp r,iv b] h (.ret (bv (mineP r b))) h:=by
 refine con_of (E:=eMine) (Γ:=consΓ (P:=PP) []) (C:=cMine) (l:=[28,54,55]) (.one kB) (cons_ok rfl) named_mine rfl rfl rfl (to_wp ?_) h
 rw [t_mine]
 simp only [len_map,nI]
 obtain⟨j,L,h1,h2⟩:=mine_lp r b hr
 rcases h2 with ⟨rfl,rfl,h3⟩|⟨k,x,rfl,rfl,h3,h4⟩
 ·refine .inl ⟨_,h1,fun _=>res_kb ?_,fun _=>res_kb ?_⟩<;>simp [mineP,h3]
 refine .inr (.inl ⟨_,h1,fun h5=>⟨fun h6=>⟨by show(0:Int)≤(k:Int);omega,dLe x,?_,res_vb ?_⟩,fun h6=>?_⟩,fun h5=>res_kb ?_⟩)
 ·show(r.le.map dLe)[((k:Nat):Int).toNat]?=_
  rw [Int.toNat_natCast,List.getElem?_map,h3];rfl
 ·have h5:decide (b≥0)=true:=h5
  simp only [mineP,h4]
  simp only [ge_iff_le]at h5
  rw [h5];rfl
 ·have h6:decide (((k:Nat):Int)≥0)=false:=h6
  simp at h6
 have h5:decide (b≥0)=false:=h5
 simp only [ge_iff_le]at h5
 simp [mineP,h5]
def conMine:Con PP:=⟨28,[kRp,kI],.one kB,fun args d=>∃ r b,Sm r∧args=[dRp r,iv b]∧d=bv (mineP r b),fun args d ⟨r,b,hr,ha,hd⟩ h=>by subst ha;subst hd;exact mine_ok r b hr h⟩
theorem get_last'{α:Type}{l:List α}(f:α→D)(hl:l≠[])(hs:l.length<1000000):0≤IntKind.i64.wrap ((l.length:Int)-1)∧∃ x,l.getLast?=some x∧(l.map f)[(IntKind.i64.wrap ((l.length:Int)-1)).toNat]?=some (f x) :=
 get_last f (List.length_pos_iff.2 hl) hs rfl
theorem may_ok(r:Rp)(c:Ca)(hr:Sm r)(h:Heap):CallSd PP 15 [dRp r,dCa c] h (.ret (bv (mayP r c))) h:=by
 refine con_of (E:=E0) (Γ:=consΓ [conMine]) (C:=cMay) (l:=[15,12]) (.one kB) (cons_ok rfl) (named_all (by intro f hf;simp only [List.mem_cons,List.not_mem_nil,or_false]at hf;rcases hf with rfl|rfl<;>kernel_rfl)) rfl rfl rfl (to_wp ?_) h
 rw [t_may]
 simp only [len_map,nI]
 refine⟨_,[],⟨conMine,rfl,_,⟨r,c.bar,hr,rfl,rfl⟩,rfl⟩,fun h1=>⟨fun h2=>⟨fun h3=>?_,fun h3=>?_⟩,fun h2=>?_⟩,fun h1=>?_⟩
 ·refine res_vb ?_
  have h1:mineP r c.bar=true:=h1
  have h2:r.ca=[]:=by simpa using h2
  simp [mayP,h1,h2,h3]
 ·refine res_kb ?_
  simp [mayP,h3]
 ·have h2:r.ca≠[]:=by simpa using h2
  obtain⟨g1,x,g2,g3⟩:=get_last' dCa h2 hr.2.1
  refine⟨g1,_,g3,fun h3=>⟨fun h4=>?_,fun h4=>?_⟩,fun h3=>?_⟩
  ·refine res_vb ?_
   have h1:mineP r c.bar=true:=h1
   have h3:decide (x.bar<c.bar)=true:=h3
   simp [mayP,h1,g2,h3,h4]
  ·refine res_kb ?_
   simp [mayP,h4]
  refine res_kb ?_
  have h3:decide (x.bar<c.bar)=false:=h3
  simp [mayP,g2,h3]
 refine res_kb ?_
 have h1:mineP r c.bar=false:=h1
 simp [mayP,h1]
theorem vv_les(l:List Le):(l.map dLe).map D.vv=l.map dLe:=by rw [List.map_map];exact List.map_congr_left fun x _=>rfl
theorem vv_cas(l:List Ca):(l.map dCa).map D.vv=l.map dCa:=by rw [List.map_map];exact List.map_congr_left fun x _=>rfl
theorem vv_ods(l:List Bool):(l.map bv).map D.vv=l.map bv:=by rw [List.map_map];exact List.map_congr_left fun x _=>rfl
theorem with_ok(r:Rp)(x:En)(hr:Sm r)(h:Heap):CallSd PP 16 [dRp r,dEn x] h (.ret (dRp (withP r x))) h:=by
 obtain⟨h1,h2,h3⟩:=hr
 have e:∀ {α:Type} (l:List α) (f:α→D),(l.map f).take ((l.length:Int)).toNat=l.map f:=fun l f=>by rw [Int.toNat_natCast];exact List.take_of_length_le (by simp)
 have q:∀ {n:Nat},n<1000000→decide (n+1≤1099511627776)=true:=fun h=>decide_eq_true (by omega)
 cases hx:x.is with
 | true =>
  refine con_of (E:=E0) (Γ:=consΓ (P:=PP) []) (C:=cWith) (l:=[16,29,30,31]) (.one kRp) (cons_ok rfl) (named_all (by intro f hf;simp only [List.mem_cons,List.not_mem_nil,or_false]at hf;rcases hf with rfl|rfl|rfl|rfl<;>kernel_rfl)) rfl rfl rfl (to_wp ?_) h
  rw [t_with]
  simp only [len_map,nI,e]
  refine⟨fun _=>⟨by simp,q h1,by simp,q h3,?_⟩,fun h=>by rw [hx]at h;cases h⟩
  refine⟨_,_,rfl,rfl,?_⟩
  simp only [withP,hx,dRp,D.vv,vvL,vvL_map,List.map_append,List.map_cons,List.map_nil,vv_les,vv_cas,vv_ods]
  rfl
 | false =>
  refine con_of (E:=E0) (Γ:=consΓ (P:=PP) []) (C:=cWith) (l:=[16,29,30,31]) (.one kRp) (cons_ok rfl) (named_all (by intro f hf;simp only [List.mem_cons,List.not_mem_nil,or_false]at hf;rcases hf with rfl|rfl|rfl|rfl<;>kernel_rfl)) rfl rfl rfl (to_wp ?_) h
  rw [t_with]
  simp only [len_map,nI,e]
  refine⟨(fun h=>by rw [hx]at h;cases h),fun _=>⟨by simp,q h2,by simp,q h3,?_⟩⟩
  refine⟨_,_,rfl,rfl,?_⟩
  simp only [withP,hx,dRp,D.vv,vvL,vvL_map,List.map_append,List.map_cons,List.map_nil,vv_les,vv_cas,vv_ods]
  rfl
def conFol:Con PP:=⟨14,[kRp,kLe],.one kB,fun args d=>∃ r l,Sm r∧args=[dRp r,dLe l]∧d=bv (folP r l),fun args d ⟨r,l,hr,ha,hd⟩ h=>by subst ha;subst hd;exact fol_ok r l hr h⟩
def conMay:Con PP:=⟨15,[kRp,kCa],.one kB,fun args d=>∃ r c,Sm r∧args=[dRp r,dCa c]∧d=bv (mayP r c),fun args d ⟨r,c,hr,ha,hd⟩ h=>by subst ha;subst hd;exact may_ok r c hr h⟩
def conWith:Con PP:=⟨16,[kRp,kEn],.one kRp,fun args d=>∃ r x,Sm r∧args=[dRp r,dEn x]∧d=dRp (withP r x),fun args d ⟨r,x,hr,ha,hd⟩ h=>by subst ha;subst hd;exact with_ok r x hr h⟩
end Z
namespace Z
def nChk(st:LoopState)(pe:PE):List (Nat×BK):=[(0,.each 27 1 [.el kRp]),(1,.each 33 1 [sI]),(2,.each 27 1 [.el kRp]),(3,.each 3 1 [sI]),(4,.each 27 1 [.el kRp]),(5,.mk),(6,.rc 6 81 [(1,.fix (.p 0 0 0)),(2,.fix (.p 1 0 0)),(3,.fix (.p 2 0 0)),(4,.fix (.p 3 0 0))] st pe)]
def gChk:LCfg:=⟨55,12,12,⟨[(0,.fix (.y 6)),(1,.fix (.p 4 0 0)),(3,.el (.one (.sl 64))),(4,.el (.one (.sl 66))),(13,.el (.one (.sl 4))),(14,sI),(15,sI)],nChk .ready .non⟩,[(.exit 0,⟨[],nChk .ready .non⟩),(.ret,⟨[],nChk .ready .non⟩),(.ret,⟨[],nChk .done .ret⟩)]⟩
noncomputable def cChk:Cf:=cf [12,14,15,16] [⟨26,6,2,(26,0),gChk⟩] [⟨14,[kRp,kLe],.one kB⟩,⟨15,[kRp,kCa],.one kB⟩,⟨16,[kRp,kEn],.one kRp⟩]
noncomputable def eChk:LId→LSt→M Rd1:=fun id L=>gChk.round PP (kitF PP cChk (callT PP cChk [12]) (yhF PP cChk (callT PP cChk [13,26,12] yh0) yh0.run 6) 26) (lcode 26 0) L
theorem t_chk(r:Rp):callR cChk [6,13,26,12] 6 [dRp r]=(M.br (decide ((0:Int)≤r.1)) (M.br (!decide (r.1≤(1:Int))) (M.pure (Rs.ret (ik (530:Int)))) (M.br (nI (List.length (List.map bv r.4)) == (0:Int)) (M.pure (Rs.ret (ik (530:Int)))) (M.br (nI (List.length (List.map bv r.4)) != w64 (nI (List.length (List.map dLe r.2))+nI (List.length (List.map dCa r.3)))) (M.pure (Rs.ret (ik (530:Int)))) (M.br (decide (nI (List.length (List.map dLe r.2))>(256:Int))) (M.pure (Rs.ret (ik (530:Int)))) (M.loop (26,0) (ls [D.y 6,D.p 4 0 0,sl 64 (List.map dLe r.2),sl 66 (List.map dCa r.3),sl 4 (List.map bv r.4),iv (nI (List.length (List.map bv r.4))),iv (0:Int)] [b1 27 (dRp r),b1 33 (iv (0:Int)),Blk.arr true 27 1 [D.agg [iv r.1,D.sl false 64 [] Tok.non,D.sl false 66 [] Tok.non,D.sl false 4 [] Tok.non]],b1 3 (iv (0:Int)),b1 27 (dRp r),Blk.mk,Blk.rc 6 [D.p 0 0 0,D.p 1 0 0,D.p 2 0 0,D.p 3 0 0] LoopState.ready PE.non]) (fun L0=>M.br (D.int (vb L0 3) != nI (List.length (D.items (D.cell (vb L0 0) 3)))) (M.pure (Rs.ret (ik (530:Int)))) (M.get (D.items (D.cell (vb L0 0) 3)) (0:Int) fun d1=>M.br (!D.bool d1) (M.pure (Rs.ret (ik (530:Int)))) (M.pure (Rs.ret (ik (0:Int)))))) (fun L0=>M.br (D.int (vb L0 3) != nI (List.length (D.items (D.cell (vb L0 0) 3)))) (M.pure (Rs.ret (ik (530:Int)))) (M.get (D.items (D.cell (vb L0 0) 3)) (0:Int) fun d1=>M.br (!D.bool d1) (M.pure (Rs.ret (ik (530:Int)))) (M.pure (Rs.ret (ik (0:Int)))))) fun L0=>M.pure (Rs.ret (iv (D.int (vb L0 1))))))))) (M.pure (Rs.ret (ik (530:Int))))):=by kernel_rfl
theorem rd_chk(r x q:Rp)(le:List Le)(ca:List Ca)(od:List D)(n i e k:Int):eChk (26,0) ⟨[.y 6,.p 4 0 0,.sl false 64 (le.map dLe) .non,.sl false 66 (ca.map dCa) .non,.sl false 4 od .non,iv n,iv i],[.arr true 27 1 [dRp r],.arr true 33 1 [iv e],.arr true 27 1 [dRp x],.arr true 3 1 [iv k],.arr true 27 1 [dRp q],.mk,.rc 6 [.p 0 0 0,.p 1 0 0,.p 2 0 0,.p 3 0 0] .ready .non],[]⟩=(M.br (decide (i<n)) (M.get od i fun d0=>M.br (D.bool d0) (M.br (decide (nI (List.length (List.map dLe le))>(0:Int))) (M.get (List.map dLe le) (0:Int) fun d1=>M.need (decide ((0:Int)≤(1:Int)∧(1:Int)≤nI (List.length (List.map dLe le))∧nI (List.length (List.map dLe le))≤nI (List.length (List.map dLe le)))) (M.br (D.bool d0) (M.call 14 [dRp x,D.agg [iv (D.int (D.cell d1 0)),iv (D.int (D.cell d1 1)),iv (D.int (D.cell d1 2))]] [] fun d2 o2=>M.br (!D.bool d2) (M.pure (some 2,(ls [] [b1 27 (dRp r),b1 33 (iv (530:Int)),b1 27 (dRp x),b1 3 (iv k),b1 27 (dRp q),Blk.mk,Blk.rc 6 [D.p 0 0 0,D.p 1 0 0,D.p 2 0 0,D.p 3 0 0] LoopState.done PE.ret]))) (M.br (!D.bool d0) (M.call 15 [dRp x,D.agg [iv (0:Int),iv (0:Int)]] [] fun d3 o3=>M.br (!D.bool d3) (M.pure (some 2,(ls [] [b1 27 (dRp r),b1 33 (iv (530:Int)),b1 27 (dRp x),b1 3 (iv k),b1 27 (dRp q),Blk.mk,Blk.rc 6 [D.p 0 0 0,D.p 1 0 0,D.p 2 0 0,D.p 3 0 0] LoopState.done PE.ret]))) (M.call 16 [dRp x,D.agg [bv (D.bool d0),iv (D.int (D.cell d1 0)),iv (D.int (D.cell d1 1)),iv (D.int (D.cell d1 2)),iv (0:Int),iv (0:Int)]] [] fun d4 o4=>M.pure (none,(ls [D.y 6,D.p 4 0 0,sl 64 (List.drop 1 (List.map dLe le)),sl 66 (List.map dCa ca),sl 4 od,iv n,iv (w64 (i+(1:Int)))] [b1 27 (dRp r),b1 33 (iv e),Blk.arr true 27 1 [D.agg [iv (D.int (D.cell d4 0)),sl 64 (D.items (D.cell d4 1)),sl 66 (D.items (D.cell d4 2)),sl 4 (D.items (D.cell d4 3))]],b1 3 (iv (w64 (k+(1:Int)))),b1 27 (dRp q),Blk.mk,Blk.rc 6 [D.p 0 0 0,D.p 1 0 0,D.p 2 0 0,D.p 3 0 0] LoopState.ready PE.non])))) (M.call 16 [dRp x,D.agg [bv (D.bool d0),iv (D.int (D.cell d1 0)),iv (D.int (D.cell d1 1)),iv (D.int (D.cell d1 2)),iv (0:Int),iv (0:Int)]] [] fun d3 o3=>M.pure (none,(ls [D.y 6,D.p 4 0 0,sl 64 (List.drop 1 (List.map dLe le)),sl 66 (List.map dCa ca),sl 4 od,iv n,iv (w64 (i+(1:Int)))] [b1 27 (dRp r),b1 33 (iv e),Blk.arr true 27 1 [D.agg [iv (D.int (D.cell d3 0)),sl 64 (D.items (D.cell d3 1)),sl 66 (D.items (D.cell d3 2)),sl 4 (D.items (D.cell d3 3))]],b1 3 (iv (w64 (k+(1:Int)))),b1 27 (dRp q),Blk.mk,Blk.rc 6 [D.p 0 0 0,D.p 1 0 0,D.p 2 0 0,D.p 3 0 0] LoopState.ready PE.non]))))) (M.br (!D.bool d0) (M.call 15 [dRp x,D.agg [iv (0:Int),iv (0:Int)]] [] fun d2 o2=>M.br (!D.bool d2) (M.pure (some 2,(ls [] [b1 27 (dRp r),b1 33 (iv (530:Int)),b1 27 (dRp x),b1 3 (iv k),b1 27 (dRp q),Blk.mk,Blk.rc 6 [D.p 0 0 0,D.p 1 0 0,D.p 2 0 0,D.p 3 0 0] LoopState.done PE.ret]))) (M.call 16 [dRp x,D.agg [bv (D.bool d0),iv (D.int (D.cell d1 0)),iv (D.int (D.cell d1 1)),iv (D.int (D.cell d1 2)),iv (0:Int),iv (0:Int)]] [] fun d3 o3=>M.pure (none,(ls [D.y 6,D.p 4 0 0,sl 64 (List.drop 1 (List.map dLe le)),sl 66 (List.map dCa ca),sl 4 od,iv n,iv (w64 (i+(1:Int)))] [b1 27 (dRp r),b1 33 (iv e),Blk.arr true 27 1 [D.agg [iv (D.int (D.cell d3 0)),sl 64 (D.items (D.cell d3 1)),sl 66 (D.items (D.cell d3 2)),sl 4 (D.items (D.cell d3 3))]],b1 3 (iv (w64 (k+(1:Int)))),b1 27 (dRp q),Blk.mk,Blk.rc 6 [D.p 0 0 0,D.p 1 0 0,D.p 2 0 0,D.p 3 0 0] LoopState.ready PE.non])))) (M.call 16 [dRp x,D.agg [bv (D.bool d0),iv (D.int (D.cell d1 0)),iv (D.int (D.cell d1 1)),iv (D.int (D.cell d1 2)),iv (0:Int),iv (0:Int)]] [] fun d2 o2=>M.pure (none,(ls [D.y 6,D.p 4 0 0,sl 64 (List.drop 1 (List.map dLe le)),sl 66 (List.map dCa ca),sl 4 od,iv n,iv (w64 (i+(1:Int)))] [b1 27 (dRp r),b1 33 (iv e),Blk.arr true 27 1 [D.agg [iv (D.int (D.cell d2 0)),sl 64 (D.items (D.cell d2 1)),sl 66 (D.items (D.cell d2 2)),sl 4 (D.items (D.cell d2 3))]],b1 3 (iv (w64 (k+(1:Int)))),b1 27 (dRp q),Blk.mk,Blk.rc 6 [D.p 0 0 0,D.p 1 0 0,D.p 2 0 0,D.p 3 0 0] LoopState.ready PE.non])))))) (M.br (!D.bool d0) (M.br (decide (nI (List.length (List.map dCa ca))>(0:Int))) (M.get (List.map dCa ca) (0:Int) fun d1=>M.need (decide ((0:Int)≤(1:Int)∧(1:Int)≤nI (List.length (List.map dCa ca))∧nI (List.length (List.map dCa ca))≤nI (List.length (List.map dCa ca)))) (M.br (D.bool d0) (M.call 14 [dRp x,D.agg [iv (0:Int),iv (0:Int),iv (0:Int)]] [] fun d2 o2=>M.br (!D.bool d2) (M.pure (some 2,(ls [] [b1 27 (dRp r),b1 33 (iv (530:Int)),b1 27 (dRp x),b1 3 (iv k),b1 27 (dRp q),Blk.mk,Blk.rc 6 [D.p 0 0 0,D.p 1 0 0,D.p 2 0 0,D.p 3 0 0] LoopState.done PE.ret]))) (M.br (!D.bool d0) (M.call 15 [dRp x,D.agg [iv (D.int (D.cell d1 0)),iv (D.int (D.cell d1 1))]] [] fun d3 o3=>M.br (!D.bool d3) (M.pure (some 2,(ls [] [b1 27 (dRp r),b1 33 (iv (530:Int)),b1 27 (dRp x),b1 3 (iv k),b1 27 (dRp q),Blk.mk,Blk.rc 6 [D.p 0 0 0,D.p 1 0 0,D.p 2 0 0,D.p 3 0 0] LoopState.done PE.ret]))) (M.call 16 [dRp x,D.agg [bv (D.bool d0),iv (0:Int),iv (0:Int),iv (0:Int),iv (D.int (D.cell d1 0)),iv (D.int (D.cell d1 1))]] [] fun d4 o4=>M.pure (none,(ls [D.y 6,D.p 4 0 0,sl 64 (List.map dLe le),sl 66 (List.drop 1 (List.map dCa ca)),sl 4 od,iv n,iv (w64 (i+(1:Int)))] [b1 27 (dRp r),b1 33 (iv e),Blk.arr true 27 1 [D.agg [iv (D.int (D.cell d4 0)),sl 64 (D.items (D.cell d4 1)),sl 66 (D.items (D.cell d4 2)),sl 4 (D.items (D.cell d4 3))]],b1 3 (iv (w64 (k+(1:Int)))),b1 27 (dRp q),Blk.mk,Blk.rc 6 [D.p 0 0 0,D.p 1 0 0,D.p 2 0 0,D.p 3 0 0] LoopState.ready PE.non])))) (M.call 16 [dRp x,D.agg [bv (D.bool d0),iv (0:Int),iv (0:Int),iv (0:Int),iv (D.int (D.cell d1 0)),iv (D.int (D.cell d1 1))]] [] fun d3 o3=>M.pure (none,(ls [D.y 6,D.p 4 0 0,sl 64 (List.map dLe le),sl 66 (List.drop 1 (List.map dCa ca)),sl 4 od,iv n,iv (w64 (i+(1:Int)))] [b1 27 (dRp r),b1 33 (iv e),Blk.arr true 27 1 [D.agg [iv (D.int (D.cell d3 0)),sl 64 (D.items (D.cell d3 1)),sl 66 (D.items (D.cell d3 2)),sl 4 (D.items (D.cell d3 3))]],b1 3 (iv (w64 (k+(1:Int)))),b1 27 (dRp q),Blk.mk,Blk.rc 6 [D.p 0 0 0,D.p 1 0 0,D.p 2 0 0,D.p 3 0 0] LoopState.ready PE.non]))))) (M.br (!D.bool d0) (M.call 15 [dRp x,D.agg [iv (D.int (D.cell d1 0)),iv (D.int (D.cell d1 1))]] [] fun d2 o2=>M.br (!D.bool d2) (M.pure (some 2,(ls [] [b1 27 (dRp r),b1 33 (iv (530:Int)),b1 27 (dRp x),b1 3 (iv k),b1 27 (dRp q),Blk.mk,Blk.rc 6 [D.p 0 0 0,D.p 1 0 0,D.p 2 0 0,D.p 3 0 0] LoopState.done PE.ret]))) (M.call 16 [dRp x,D.agg [bv (D.bool d0),iv (0:Int),iv (0:Int),iv (0:Int),iv (D.int (D.cell d1 0)),iv (D.int (D.cell d1 1))]] [] fun d3 o3=>M.pure (none,(ls [D.y 6,D.p 4 0 0,sl 64 (List.map dLe le),sl 66 (List.drop 1 (List.map dCa ca)),sl 4 od,iv n,iv (w64 (i+(1:Int)))] [b1 27 (dRp r),b1 33 (iv e),Blk.arr true 27 1 [D.agg [iv (D.int (D.cell d3 0)),sl 64 (D.items (D.cell d3 1)),sl 66 (D.items (D.cell d3 2)),sl 4 (D.items (D.cell d3 3))]],b1 3 (iv (w64 (k+(1:Int)))),b1 27 (dRp q),Blk.mk,Blk.rc 6 [D.p 0 0 0,D.p 1 0 0,D.p 2 0 0,D.p 3 0 0] LoopState.ready PE.non])))) (M.call 16 [dRp x,D.agg [bv (D.bool d0),iv (0:Int),iv (0:Int),iv (0:Int),iv (D.int (D.cell d1 0)),iv (D.int (D.cell d1 1))]] [] fun d2 o2=>M.pure (none,(ls [D.y 6,D.p 4 0 0,sl 64 (List.map dLe le),sl 66 (List.drop 1 (List.map dCa ca)),sl 4 od,iv n,iv (w64 (i+(1:Int)))] [b1 27 (dRp r),b1 33 (iv e),Blk.arr true 27 1 [D.agg [iv (D.int (D.cell d2 0)),sl 64 (D.items (D.cell d2 1)),sl 66 (D.items (D.cell d2 2)),sl 4 (D.items (D.cell d2 3))]],b1 3 (iv (w64 (k+(1:Int)))),b1 27 (dRp q),Blk.mk,Blk.rc 6 [D.p 0 0 0,D.p 1 0 0,D.p 2 0 0,D.p 3 0 0] LoopState.ready PE.non])))))) (M.pure (some 1,(ls [] [b1 27 (dRp r),b1 33 (iv e),b1 27 (dRp x),b1 3 (iv k),b1 27 (dRp q),Blk.mk,Blk.rc 6 [D.p 0 0 0,D.p 1 0 0,D.p 2 0 0,D.p 3 0 0] LoopState.ready PE.non])))) (M.pure (some 1,(ls [] [b1 27 (dRp r),b1 33 (iv e),b1 27 (dRp x),b1 3 (iv k),b1 27 (dRp q),Blk.mk,Blk.rc 6 [D.p 0 0 0,D.p 1 0 0,D.p 2 0 0,D.p 3 0 0] LoopState.ready PE.non]))))) (M.br (!D.bool d0) (M.br (decide (nI (List.length (List.map dCa ca))>(0:Int))) (M.get (List.map dCa ca) (0:Int) fun d1=>M.need (decide ((0:Int)≤(1:Int)∧(1:Int)≤nI (List.length (List.map dCa ca))∧nI (List.length (List.map dCa ca))≤nI (List.length (List.map dCa ca)))) (M.br (D.bool d0) (M.call 14 [dRp x,D.agg [iv (0:Int),iv (0:Int),iv (0:Int)]] [] fun d2 o2=>M.br (!D.bool d2) (M.pure (some 2,(ls [] [b1 27 (dRp r),b1 33 (iv (530:Int)),b1 27 (dRp x),b1 3 (iv k),b1 27 (dRp q),Blk.mk,Blk.rc 6 [D.p 0 0 0,D.p 1 0 0,D.p 2 0 0,D.p 3 0 0] LoopState.done PE.ret]))) (M.br (!D.bool d0) (M.call 15 [dRp x,D.agg [iv (D.int (D.cell d1 0)),iv (D.int (D.cell d1 1))]] [] fun d3 o3=>M.br (!D.bool d3) (M.pure (some 2,(ls [] [b1 27 (dRp r),b1 33 (iv (530:Int)),b1 27 (dRp x),b1 3 (iv k),b1 27 (dRp q),Blk.mk,Blk.rc 6 [D.p 0 0 0,D.p 1 0 0,D.p 2 0 0,D.p 3 0 0] LoopState.done PE.ret]))) (M.call 16 [dRp x,D.agg [bv (D.bool d0),iv (0:Int),iv (0:Int),iv (0:Int),iv (D.int (D.cell d1 0)),iv (D.int (D.cell d1 1))]] [] fun d4 o4=>M.pure (none,(ls [D.y 6,D.p 4 0 0,sl 64 (List.map dLe le),sl 66 (List.drop 1 (List.map dCa ca)),sl 4 od,iv n,iv (w64 (i+(1:Int)))] [b1 27 (dRp r),b1 33 (iv e),Blk.arr true 27 1 [D.agg [iv (D.int (D.cell d4 0)),sl 64 (D.items (D.cell d4 1)),sl 66 (D.items (D.cell d4 2)),sl 4 (D.items (D.cell d4 3))]],b1 3 (iv (w64 (k+(1:Int)))),b1 27 (dRp q),Blk.mk,Blk.rc 6 [D.p 0 0 0,D.p 1 0 0,D.p 2 0 0,D.p 3 0 0] LoopState.ready PE.non])))) (M.call 16 [dRp x,D.agg [bv (D.bool d0),iv (0:Int),iv (0:Int),iv (0:Int),iv (D.int (D.cell d1 0)),iv (D.int (D.cell d1 1))]] [] fun d3 o3=>M.pure (none,(ls [D.y 6,D.p 4 0 0,sl 64 (List.map dLe le),sl 66 (List.drop 1 (List.map dCa ca)),sl 4 od,iv n,iv (w64 (i+(1:Int)))] [b1 27 (dRp r),b1 33 (iv e),Blk.arr true 27 1 [D.agg [iv (D.int (D.cell d3 0)),sl 64 (D.items (D.cell d3 1)),sl 66 (D.items (D.cell d3 2)),sl 4 (D.items (D.cell d3 3))]],b1 3 (iv (w64 (k+(1:Int)))),b1 27 (dRp q),Blk.mk,Blk.rc 6 [D.p 0 0 0,D.p 1 0 0,D.p 2 0 0,D.p 3 0 0] LoopState.ready PE.non]))))) (M.br (!D.bool d0) (M.call 15 [dRp x,D.agg [iv (D.int (D.cell d1 0)),iv (D.int (D.cell d1 1))]] [] fun d2 o2=>M.br (!D.bool d2) (M.pure (some 2,(ls [] [b1 27 (dRp r),b1 33 (iv (530:Int)),b1 27 (dRp x),b1 3 (iv k),b1 27 (dRp q),Blk.mk,Blk.rc 6 [D.p 0 0 0,D.p 1 0 0,D.p 2 0 0,D.p 3 0 0] LoopState.done PE.ret]))) (M.call 16 [dRp x,D.agg [bv (D.bool d0),iv (0:Int),iv (0:Int),iv (0:Int),iv (D.int (D.cell d1 0)),iv (D.int (D.cell d1 1))]] [] fun d3 o3=>M.pure (none,(ls [D.y 6,D.p 4 0 0,sl 64 (List.map dLe le),sl 66 (List.drop 1 (List.map dCa ca)),sl 4 od,iv n,iv (w64 (i+(1:Int)))] [b1 27 (dRp r),b1 33 (iv e),Blk.arr true 27 1 [D.agg [iv (D.int (D.cell d3 0)),sl 64 (D.items (D.cell d3 1)),sl 66 (D.items (D.cell d3 2)),sl 4 (D.items (D.cell d3 3))]],b1 3 (iv (w64 (k+(1:Int)))),b1 27 (dRp q),Blk.mk,Blk.rc 6 [D.p 0 0 0,D.p 1 0 0,D.p 2 0 0,D.p 3 0 0] LoopState.ready PE.non])))) (M.call 16 [dRp x,D.agg [bv (D.bool d0),iv (0:Int),iv (0:Int),iv (0:Int),iv (D.int (D.cell d1 0)),iv (D.int (D.cell d1 1))]] [] fun d2 o2=>M.pure (none,(ls [D.y 6,D.p 4 0 0,sl 64 (List.map dLe le),sl 66 (List.drop 1 (List.map dCa ca)),sl 4 od,iv n,iv (w64 (i+(1:Int)))] [b1 27 (dRp r),b1 33 (iv e),Blk.arr true 27 1 [D.agg [iv (D.int (D.cell d2 0)),sl 64 (D.items (D.cell d2 1)),sl 66 (D.items (D.cell d2 2)),sl 4 (D.items (D.cell d2 3))]],b1 3 (iv (w64 (k+(1:Int)))),b1 27 (dRp q),Blk.mk,Blk.rc 6 [D.p 0 0 0,D.p 1 0 0,D.p 2 0 0,D.p 3 0 0] LoopState.ready PE.non])))))) (M.pure (some 1,(ls [] [b1 27 (dRp r),b1 33 (iv e),b1 27 (dRp x),b1 3 (iv k),b1 27 (dRp q),Blk.mk,Blk.rc 6 [D.p 0 0 0,D.p 1 0 0,D.p 2 0 0,D.p 3 0 0] LoopState.ready PE.non])))) (M.pure (some 1,(ls [] [b1 27 (dRp r),b1 33 (iv e),b1 27 (dRp x),b1 3 (iv k),b1 27 (dRp q),Blk.mk,Blk.rc 6 [D.p 0 0 0,D.p 1 0 0,D.p 2 0 0,D.p 3 0 0] LoopState.ready PE.non]))))) (M.pure (some 0,(ls [] [b1 27 (dRp r),b1 33 (iv e),b1 27 (dRp x),b1 3 (iv k),b1 27 (dRp q),Blk.mk,Blk.rc 6 [D.p 0 0 0,D.p 1 0 0,D.p 2 0 0,D.p 3 0 0] LoopState.ready PE.non])))):=by kernel_rfl
theorem vv_rp(r:Rp):(dRp r).vv=dRp r:=by
 unfold dRp
 simp only [D.vv,vvL,vvL_map,vv_les,vv_cas,vv_ods]
def leE(E:List En):List Le:=(E.filter (·.is)).map (·.le)
def caE(E:List En):List Ca:=(E.filter (!·.is)).map (·.ca)
def odE(E:List En):List Bool:=E.map (·.is)
def ofE(s:Int)(E:List En):Rp:=⟨s,leE E,caE E,odE E⟩
def Nf(x:En):Prop:=match x.is with
 | true=>x.ca=⟨0,0⟩
 | false=>x.le=⟨0,0,0⟩
def nextP(r:Rp)(x:En):Bool:=match x.is with
 | true=>folP r x.le
 | false=>mayP r x.ca
structure VE(s:Int)(E:List En):Prop where
 self:s=0∨s=1
 ne:E≠[]
 le:(leE E).length≤256
 sm:E.length<100000
 nf:∀ x∈E,Nf x
 nx:∀ i x,E[i]?=some x→nextP (ofE s (E.take i)) x=true
theorem with_of{s:Int}{E:List En}{x:En}(hx:Nf x):withP (ofE s E) x=ofE s (E++[x]):=by
 unfold withP ofE leE caE odE
 cases h:x.is<;>simp [h,List.filter_append,List.filter_cons]
theorem leE_len(E:List En):(leE E).length≤E.length:=by unfold leE;rw [List.length_map];exact List.length_filter_le ..
theorem caE_len(E:List En):(caE E).length≤E.length:=by unfold caE;rw [List.length_map];exact List.length_filter_le ..
theorem odE_len(E:List En):(odE E).length=E.length:=List.length_map ..
theorem le_ca_len(E:List En):(leE E).length+(caE E).length=E.length:=by
 unfold leE caE
 induction E with
 | nil=>rfl
 | cons x E ih =>
  simp only [List.filter_cons,List.length_map]at ih ⊢
  cases h:x.is<;>simp<;>omega
theorem sm_of{s:Int}{E:List En}(h:E.length<100000):Sm (ofE s E):=⟨Nat.lt_of_le_of_lt (leE_len E) (by omega),Nat.lt_of_le_of_lt (caE_len E) (by omega),by show(odE E).length<_;rw [odE_len];omega⟩
theorem take_sm{E:List En}(h:E.length<100000)(i:Nat):(E.take i).length<100000:=Nat.lt_of_le_of_lt (by rw [List.length_take];omega) h
abbrev rcC (st:LoopState) (pe:PE):Blk:=.rc 6 [.p 0 0 0,.p 1 0 0,.p 2 0 0,.p 3 0 0] st pe
abbrev bChk (r x:Rp) (e k:Int) (st:LoopState) (pe:PE):List Blk:=[b1 27 (dRp r),b1 33 (iv e),b1 27 (dRp x),b1 3 (iv k),b1 27 (dRp r),.mk,rcC st pe]
abbrev stChk (s:Int) (E:List En) (i:Nat):LSt:=ls [.y 6,.p 4 0 0,sl 64 ((leE (E.drop i)).map dLe),sl 66 ((caE (E.drop i)).map dCa),sl 4 ((odE E).map bv),iv E.length,iv ((i:Nat):Int)] (bChk (ofE s E) (ofE s (E.take i)) 0 ((i:Nat):Int) .ready .non)
theorem take_one{α:Type}{l:List α}{i:Nat}{x:α}(h:l[i]?=some x):l.take (i+1)=l.take i++[x]:=by
 obtain⟨h1,h2⟩:=List.getElem?_eq_some_iff.1 h
 rw [List.take_succ_eq_append_getElem h1,h2]
theorem drop_one{α:Type}{l:List α}{i:Nat}{x:α}(h:l[i]?=some x):l.drop i=x::l.drop (i+1):=by
 obtain⟨h1,h2⟩:=List.getElem?_eq_some_iff.1 h
 rw [List.drop_eq_getElem_cons h1,h2]
theorem od_get{E:List En}{i:Nat}{x:En}(h:E[i]?=some x):((odE E).map bv)[((i:Nat):Int).toNat]?=some (bv x.is):=by
 rw [Int.toNat_natCast,List.getElem?_map]
 unfold odE
 rw [List.getElem?_map,h];rfl
theorem leE_cons{x:En}{E:List En}(h:x.is=true):leE (x::E)=x.le::leE E∧caE (x::E)=caE E:=by
 unfold leE caE;simp [List.filter_cons,h]
theorem caE_cons{x:En}{E:List En}(h:x.is=false):caE (x::E)=x.ca::caE E∧leE (x::E)=leE E:=by
 unfold leE caE;simp [List.filter_cons,h]
theorem chk_lp(s:Int)(E:List En)(hv:VE s E):∃ j L,Lp eChk (consΓ [conFol,conMay,conWith]) (26,0) (stChk s E 0) j L∧j=0∧L=ls [] (bChk (ofE s E) (ofE s E) 0 E.length .ready .non):=by
 have hsm:=hv.sm
 refine lp_up (σ:=Unit) (fun i _=>stChk s E i) E.length (fun _ _=>True) _ (fun i _ hi _=>?_) (fun _ _=>?_) (s:=()) trivial
 ·rw [rd_chk]
  have hx:=List.getElem?_eq_getElem hi
  generalize E[i]=x at hx
  have hmem:x∈E:=List.mem_of_getElem? hx
  have hnf:=hv.nf x hmem
  have hnx:=hv.nx i x hx
  have hsmi:=sm_of (s:=s) (take_sm hsm i)
  have hd:=drop_one hx
  have hw:=with_of (s:=s) (E:=E.take i) hnf
  rw [← take_one hx]at hw
  refine⟨fun _=>⟨by omega,bv x.is,od_get hx,fun h2=>?_,fun h2=>?_⟩,fun h1=>absurd h1 (by simp;omega)⟩
  ·have h2:x.is=true:=h2
   obtain⟨q1,q2⟩:=leE_cons (E:=E.drop (i+1)) h2
   rw [hd,q1,q2]
   have hca:x.ca=⟨0,0⟩:=by unfold Nf at hnf;rw [h2]at hnf;exact hnf
   have hf:folP (ofE s (E.take i)) x.le=true:=by unfold nextP at hnx;rw [h2]at hnx;exact hnx
   refine⟨fun _=>⟨Int.le_refl _,dLe x.le,rfl,by simp [nI];omega,fun _=>⟨_,[],⟨conFol,rfl,_,⟨ofE s (E.take i),x.le,hsmi,rfl,rfl⟩,rfl⟩,fun h5=>?_,fun _=>⟨fun h6=>?_,fun _=>⟨_,[],⟨conWith,rfl,_,⟨ofE s (E.take i),x,hsmi,?_,rfl⟩,rfl⟩,.inl ⟨(),?_,trivial⟩⟩⟩⟩,fun h4=>?_⟩,fun h3=>?_⟩
   ·have h5:(!folP (ofE s (E.take i)) x.le)=true:=h5
    rw [hf]at h5;cases h5
   ·have h6:(!x.is)=true:=h6
    rw [h2]at h6;cases h6
   ·unfold dEn
    rw [hca];rfl
   ·rw [hw]
    rw [w64_id (by omega) (by omega)]
    rfl
   ·have h4:x.is=false:=h4
    rw [h2]at h4;cases h4
   simp [nI]at h3
  have h2:x.is=false:=h2
  obtain⟨q1,q2⟩:=caE_cons (E:=E.drop (i+1)) h2
  rw [hd,q1,q2]
  have hle:x.le=⟨0,0,0⟩:=by unfold Nf at hnf;rw [h2]at hnf;exact hnf
  have hf:mayP (ofE s (E.take i)) x.ca=true:=by unfold nextP at hnx;rw [h2]at hnx;exact hnx
  refine⟨fun _=>⟨fun _=>⟨Int.le_refl _,dCa x.ca,rfl,by simp [nI];omega,fun h4=>?_,fun _=>⟨fun _=>⟨_,[],⟨conMay,rfl,_,⟨ofE s (E.take i),x.ca,hsmi,rfl,rfl⟩,rfl⟩,fun h5=>?_,fun _=>⟨_,[],⟨conWith,rfl,_,⟨ofE s (E.take i),x,hsmi,?_,rfl⟩,rfl⟩,.inl ⟨(),?_,trivial⟩⟩⟩,fun h6=>?_⟩⟩,fun h3=>?_⟩,fun h3=>?_⟩
  ·have h4:x.is=true:=h4
   rw [h2]at h4;cases h4
  ·have h5:(!mayP (ofE s (E.take i)) x.ca)=true:=h5
   rw [hf]at h5;cases h5
  ·unfold dEn
   rw [hle];rfl
  ·rw [hw]
   rw [w64_id (by omega) (by omega)]
   rfl
  ·have h6:(!x.is)=false:=h6
   rw [h2]at h6;cases h6
  ·simp [nI]at h3
  have h3:(!x.is)=false:=h3
  rw [h2]at h3;cases h3
 rw [rd_chk]
 refine⟨fun h1=>absurd h1 (by simp),fun _=>⟨0,_,rfl,rfl,?_⟩⟩
 rw [List.take_length]
theorem named_chk:NamedT eChk PP cChk [6,13,26,12] yh0 :=
 named_range (c0:=lcode 6 0) (by kernel_rfl) (fun c s=>rfl) (by kernel_rfl) (named_plain (by kernel_rfl) (named_none (by kernel_rfl) (by kernel_rfl) (fun c s=>rfl) (named_plain (by kernel_rfl) (NamedT.nil (P:=PP)))))
  (named_plain (by kernel_rfl) (named_loop (id0:=(26,0)) (by kernel_rfl) (by kernel_rfl) (by kernel_rfl) (fun s=>by kernel_rfl) (fun L=>rfl) (named_plain (by kernel_rfl) (NamedT.nil (P:=PP)))))
theorem chk_ok(s:Int)(E:List En)(hv:VE s E)(h:Heap):CallSd PP 6 [dRp (ofE s E)] h (.ret (iv 0)) h:=by
 refine con_of (E:=eChk) (Γ:=consΓ [conFol,conMay,conWith]) (C:=cChk) (l:=[6,13,26,12]) (.one kI) (cons_ok rfl) named_chk rfl rfl rfl (to_wp ?_) h
 rw [t_chk]
 have hsm:=hv.sm
 have h1:(leE E).length+(caE E).length=E.length:=le_ca_len E
 have h2:(odE E).length=E.length:=odE_len E
 have h3:=hv.le
 have h4:0<E.length:=List.length_pos_iff.2 hv.ne
 simp only [len_map,nI]
 show Wp eChk _ (.br (decide ((0:Int)≤s)) _ _) _
 refine⟨fun _=>⟨fun h5=>?_,fun _=>⟨fun h5=>?_,fun _=>⟨fun h5=>?_,fun _=>⟨fun h5=>?_,fun _=>?_⟩⟩⟩⟩,fun h5=>?_⟩
 ·exfalso
  have h5:(!decide (s≤(1:Int)))=true:=h5
  rcases hv.self with h|h<;>rw [h]at h5<;>cases h5
 ·exfalso
  have h5:(((odE E).length:Int) == 0)=true:=h5
  have h6:=beq_iff_eq.1 h5
  omega
 ·exfalso
  have h5:(((odE E).length:Int) != w64 (((leE E).length:Int)+((caE E).length:Int)))=true:=h5
  have hw:w64 (((leE E).length:Int)+((caE E).length:Int))=((leE E).length:Int)+((caE E).length:Int):=w64_id (by omega) (by omega)
  rw [hw,h2]at h5
  have h6:=bne_iff_ne.1 h5
  omega
 ·exfalso
  have h5:decide (((leE E).length:Int)>256)=true:=h5
  simp at h5;omega
 ·obtain⟨j,L,g1,rfl,rfl⟩:=chk_lp s E hv
  have hx:=List.getElem?_eq_getElem h4
  have ho:=od_get hx
  have hn:=hv.nx 0 _ hx
  have hl:E[0].is=true:=by
   cases h6:E[0].is with
   | true=>rfl
   | false =>
    unfold nextP at hn
    rw [h6]at hn
    simp [mayP,mineP,ofE,leE]at hn
  refine .inl ⟨ls [] (bChk (ofE s E) (ofE s E) 0 E.length .ready .non),?_,fun h5=>?_,fun _=>⟨Int.le_refl _,_,ho,fun h5=>?_,fun _=>res_ki rfl⟩⟩
  ·have e:stChk s E 0=ls [D.y 6,D.p 4 0 0,sl 64 (List.map dLe (ofE s E).2),sl 66 (List.map dCa (ofE s E).3),sl 4 (List.map bv (ofE s E).4),iv ((ofE s E).4.length:Int),iv 0] (bChk (ofE s E) ⟨s,[],[],[]⟩ 0 0 .ready .non):=by
    unfold stChk
    rw [List.drop_zero,List.take_zero]
    show _=ls [D.y 6,D.p 4 0 0,sl 64 (List.map dLe (leE E)),sl 66 (List.map dCa (caE E)),sl 4 (List.map bv (odE E)),iv ((odE E).length:Int),iv 0] _
    rw [h2]
    rfl
   rw [e]at g1
   exact g1
  ·exfalso
   have h5:((E.length:Int) != (((odE E).map bv).length:Int))=true:=h5
   rw [len_map,h2]at h5
   simp at h5
  exfalso
  have h5:(!E[0].is)=true:=h5
  rw [hl]at h5;cases h5
 exfalso
 have h5:decide ((0:Int)≤s)=false:=h5
 rcases hv.self with h|h<;>rw [h]at h5<;>cases h5
end Z
namespace Z
def kVa:SK0:=.row [.i .i64,.i .i64,.s,.sl 129]
noncomputable def cFI:Cf:=cf [] [] []
noncomputable def cEnc:Cf:=cfq (fun f=>if f=106 then 2 else 12) [107,79,104] [80] [] [⟨104,[kVa],.tup [kI,kB]⟩,⟨107,[kI],.one (.one (.i .u64))⟩]
noncomputable abbrev lEnc:List FuncId:=[32,56,79,104,80,109,105,106]
theorem t_fI(n:Int):callR cFI [104] 104 [.agg [ik 1,iv n,.k (.string .empty),.sl true 129 [] .non]]=(M.br (n == (0:Int)) (M.br (n == (0:Int)) (M.pure (Rs.ret (D.tup [ik (0:Int),bk true]))) (M.pure (Rs.ret (D.tup [ik (0:Int),bk true])))) (M.br (n == (0:Int)) (M.pure (Rs.ret (D.tup [ik (0:Int),bk true]))) (M.pure (Rs.ret (D.tup [ik (0:Int),bk true]))))):=by kernel_rfl
theorem t_un(n:Int):callR cFI [107] 107 [iv n]=(M.pure (Rs.ret (D.v (Value.int IntKind.u64 (IntKind.wrap IntKind.u64 (nI (BitVec.toNat (BitVec.ofInt 64 (IntKind.wrap IntKind.u64 (IntKind.wrap IntKind.u64 n*(2:Int) ^ 1))^^^BitVec.ofInt 64 (IntKind.wrap IntKind.u64 (Int.fdiv n ((2:Int) ^ 63))))))))))):=by kernel_rfl
theorem t_rec3(a b:Int):callR cEnc lEnc 32 [.sl true 3 [ik 2,iv a,iv b] .non]=(M.call 104 [D.agg [iv (1:Int),iv (2:Int),D.v (Value.string { data:=#[] }),D.sl false 129 [] Tok.non]] [] fun d0 o0=>M.br (!D.bool (List.getD (D.parts d0) 1 D.any)) (M.pure (Rs.ret (D.k (Value.slice none 0 0)))) (M.call 104 [D.agg [iv (1:Int),iv a,D.v (Value.string { data:=#[] }),D.sl false 129 [] Tok.non]] [] fun d1 o1=>M.br (!D.bool (List.getD (D.parts d1) 1 D.any)) (M.pure (Rs.ret (D.k (Value.slice none 0 0)))) (M.call 104 [D.agg [iv (1:Int),iv b,D.v (Value.string { data:=#[] }),D.sl false 129 [] Tok.non]] [] fun d2 o2=>M.br (!D.bool (List.getD (D.parts d2) 1 D.any)) (M.pure (Rs.ret (D.k (Value.slice none 0 0)))) (M.br (decide (w64 ((if(if(if(0:Int)<D.int (List.getD (D.parts d0) 0 D.any)then D.int (List.getD (D.parts d0) 0 D.any)else(0:Int))<D.int (List.getD (D.parts d1) 0 D.any)then D.int (List.getD (D.parts d1) 0 D.any)else if(0:Int)<D.int (List.getD (D.parts d0) 0 D.any)then D.int (List.getD (D.parts d0) 0 D.any)else(0:Int))<D.int (List.getD (D.parts d2) 0 D.any)then D.int (List.getD (D.parts d2) 0 D.any)else if(if(0:Int)<D.int (List.getD (D.parts d0) 0 D.any)then D.int (List.getD (D.parts d0) 0 D.any)else(0:Int))<D.int (List.getD (D.parts d1) 0 D.any)then D.int (List.getD (D.parts d1) 0 D.any)else if(0:Int)<D.int (List.getD (D.parts d0) 0 D.any)then D.int (List.getD (D.parts d0) 0 D.any)else(0:Int))+(1:Int))>(16:Int))) (M.pure (Rs.ret (D.k (Value.slice none 0 0)))) (M.call 107 [iv (2:Int)] [] fun d3 o3=>M.br (decide (D.int d3≥(128:Int))) (M.br (decide (Int.fdiv (D.int d3) ((2:Int) ^ 7)≥(128:Int))) (M.bad 140) (M.call 107 [iv a] [] fun d4 o4=>M.br (decide (D.int d4≥(128:Int))) (M.br (decide (Int.fdiv (D.int d4) ((2:Int) ^ 7)≥(128:Int))) (M.bad 140) (M.call 107 [iv b] [] fun d5 o5=>M.br (decide (D.int d5≥(128:Int))) (M.br (decide (Int.fdiv (D.int d5) ((2:Int) ^ 7)≥(128:Int))) (M.bad 140) (M.pure (Rs.ret (D.sl true 5 [D.k (Value.int IntKind.u8 (3:Int)),D.k (Value.int IntKind.u8 (IntKind.wrap IntKind.u8 (IntKind.wrap IntKind.u64 (nI 3)))),D.k (Value.int IntKind.u8 (1:Int)),D.v (Value.int IntKind.u8 (IntKind.wrap IntKind.u8 (nI (BitVec.toNat (BitVec.ofInt 8 (IntKind.wrap IntKind.u8 (D.int d3))|||BitVec.ofInt 8 (128:Int)))))),D.v (Value.int IntKind.u8 (IntKind.wrap IntKind.u8 (Int.fdiv (D.int d3) ((2:Int) ^ 7)))),D.k (Value.int IntKind.u8 (1:Int)),D.v (Value.int IntKind.u8 (IntKind.wrap IntKind.u8 (nI (BitVec.toNat (BitVec.ofInt 8 (IntKind.wrap IntKind.u8 (D.int d4))|||BitVec.ofInt 8 (128:Int)))))),D.v (Value.int IntKind.u8 (IntKind.wrap IntKind.u8 (Int.fdiv (D.int d4) ((2:Int) ^ 7)))),D.k (Value.int IntKind.u8 (1:Int)),D.v (Value.int IntKind.u8 (IntKind.wrap IntKind.u8 (nI (BitVec.toNat (BitVec.ofInt 8 (IntKind.wrap IntKind.u8 (D.int d5))|||BitVec.ofInt 8 (128:Int)))))),D.v (Value.int IntKind.u8 (IntKind.wrap IntKind.u8 (Int.fdiv (D.int d5) ((2:Int) ^ 7))))] (Tok.tip 158))))) (M.pure (Rs.ret (D.sl true 5 [D.k (Value.int IntKind.u8 (3:Int)),D.k (Value.int IntKind.u8 (IntKind.wrap IntKind.u8 (IntKind.wrap IntKind.u64 (nI 3)))),D.k (Value.int IntKind.u8 (1:Int)),D.v (Value.int IntKind.u8 (IntKind.wrap IntKind.u8 (nI (BitVec.toNat (BitVec.ofInt 8 (IntKind.wrap IntKind.u8 (D.int d3))|||BitVec.ofInt 8 (128:Int)))))),D.v (Value.int IntKind.u8 (IntKind.wrap IntKind.u8 (Int.fdiv (D.int d3) ((2:Int) ^ 7)))),D.k (Value.int IntKind.u8 (1:Int)),D.v (Value.int IntKind.u8 (IntKind.wrap IntKind.u8 (nI (BitVec.toNat (BitVec.ofInt 8 (IntKind.wrap IntKind.u8 (D.int d4))|||BitVec.ofInt 8 (128:Int)))))),D.v (Value.int IntKind.u8 (IntKind.wrap IntKind.u8 (Int.fdiv (D.int d4) ((2:Int) ^ 7)))),D.k (Value.int IntKind.u8 (1:Int)),D.v (Value.int IntKind.u8 (IntKind.wrap IntKind.u8 (D.int d5)))] (Tok.tip 157)))))) (M.call 107 [iv b] [] fun d5 o5=>M.br (decide (D.int d5≥(128:Int))) (M.br (decide (Int.fdiv (D.int d5) ((2:Int) ^ 7)≥(128:Int))) (M.bad 140) (M.pure (Rs.ret (D.sl true 5 [D.k (Value.int IntKind.u8 (3:Int)),D.k (Value.int IntKind.u8 (IntKind.wrap IntKind.u8 (IntKind.wrap IntKind.u64 (nI 3)))),D.k (Value.int IntKind.u8 (1:Int)),D.v (Value.int IntKind.u8 (IntKind.wrap IntKind.u8 (nI (BitVec.toNat (BitVec.ofInt 8 (IntKind.wrap IntKind.u8 (D.int d3))|||BitVec.ofInt 8 (128:Int)))))),D.v (Value.int IntKind.u8 (IntKind.wrap IntKind.u8 (Int.fdiv (D.int d3) ((2:Int) ^ 7)))),D.k (Value.int IntKind.u8 (1:Int)),D.v (Value.int IntKind.u8 (IntKind.wrap IntKind.u8 (D.int d4))),D.k (Value.int IntKind.u8 (1:Int)),D.v (Value.int IntKind.u8 (IntKind.wrap IntKind.u8 (nI (BitVec.toNat (BitVec.ofInt 8 (IntKind.wrap IntKind.u8 (D.int d5))|||BitVec.ofInt 8 (128:Int)))))),D.v (Value.int IntKind.u8 (IntKind.wrap IntKind.u8 (Int.fdiv (D.int d5) ((2:Int) ^ 7))))] (Tok.tip 157))))) (M.pure (Rs.ret (D.sl true 5 [D.k (Value.int IntKind.u8 (3:Int)),D.k (Value.int IntKind.u8 (IntKind.wrap IntKind.u8 (IntKind.wrap IntKind.u64 (nI 3)))),D.k (Value.int IntKind.u8 (1:Int)),D.v (Value.int IntKind.u8 (IntKind.wrap IntKind.u8 (nI (BitVec.toNat (BitVec.ofInt 8 (IntKind.wrap IntKind.u8 (D.int d3))|||BitVec.ofInt 8 (128:Int)))))),D.v (Value.int IntKind.u8 (IntKind.wrap IntKind.u8 (Int.fdiv (D.int d3) ((2:Int) ^ 7)))),D.k (Value.int IntKind.u8 (1:Int)),D.v (Value.int IntKind.u8 (IntKind.wrap IntKind.u8 (D.int d4))),D.k (Value.int IntKind.u8 (1:Int)),D.v (Value.int IntKind.u8 (IntKind.wrap IntKind.u8 (D.int d5)))] (Tok.tip 156))))))) (M.call 107 [iv a] [] fun d4 o4=>M.br (decide (D.int d4≥(128:Int))) (M.br (decide (Int.fdiv (D.int d4) ((2:Int) ^ 7)≥(128:Int))) (M.bad 140) (M.call 107 [iv b] [] fun d5 o5=>M.br (decide (D.int d5≥(128:Int))) (M.br (decide (Int.fdiv (D.int d5) ((2:Int) ^ 7)≥(128:Int))) (M.bad 140) (M.pure (Rs.ret (D.sl true 5 [D.k (Value.int IntKind.u8 (3:Int)),D.k (Value.int IntKind.u8 (IntKind.wrap IntKind.u8 (IntKind.wrap IntKind.u64 (nI 3)))),D.k (Value.int IntKind.u8 (1:Int)),D.v (Value.int IntKind.u8 (IntKind.wrap IntKind.u8 (D.int d3))),D.k (Value.int IntKind.u8 (1:Int)),D.v (Value.int IntKind.u8 (IntKind.wrap IntKind.u8 (nI (BitVec.toNat (BitVec.ofInt 8 (IntKind.wrap IntKind.u8 (D.int d4))|||BitVec.ofInt 8 (128:Int)))))),D.v (Value.int IntKind.u8 (IntKind.wrap IntKind.u8 (Int.fdiv (D.int d4) ((2:Int) ^ 7)))),D.k (Value.int IntKind.u8 (1:Int)),D.v (Value.int IntKind.u8 (IntKind.wrap IntKind.u8 (nI (BitVec.toNat (BitVec.ofInt 8 (IntKind.wrap IntKind.u8 (D.int d5))|||BitVec.ofInt 8 (128:Int)))))),D.v (Value.int IntKind.u8 (IntKind.wrap IntKind.u8 (Int.fdiv (D.int d5) ((2:Int) ^ 7))))] (Tok.tip 157))))) (M.pure (Rs.ret (D.sl true 5 [D.k (Value.int IntKind.u8 (3:Int)),D.k (Value.int IntKind.u8 (IntKind.wrap IntKind.u8 (IntKind.wrap IntKind.u64 (nI 3)))),D.k (Value.int IntKind.u8 (1:Int)),D.v (Value.int IntKind.u8 (IntKind.wrap IntKind.u8 (D.int d3))),D.k (Value.int IntKind.u8 (1:Int)),D.v (Value.int IntKind.u8 (IntKind.wrap IntKind.u8 (nI (BitVec.toNat (BitVec.ofInt 8 (IntKind.wrap IntKind.u8 (D.int d4))|||BitVec.ofInt 8 (128:Int)))))),D.v (Value.int IntKind.u8 (IntKind.wrap IntKind.u8 (Int.fdiv (D.int d4) ((2:Int) ^ 7)))),D.k (Value.int IntKind.u8 (1:Int)),D.v (Value.int IntKind.u8 (IntKind.wrap IntKind.u8 (D.int d5)))] (Tok.tip 156)))))) (M.call 107 [iv b] [] fun d5 o5=>M.br (decide (D.int d5≥(128:Int))) (M.br (decide (Int.fdiv (D.int d5) ((2:Int) ^ 7)≥(128:Int))) (M.bad 140) (M.pure (Rs.ret (D.sl true 5 [D.k (Value.int IntKind.u8 (3:Int)),D.k (Value.int IntKind.u8 (IntKind.wrap IntKind.u8 (IntKind.wrap IntKind.u64 (nI 3)))),D.k (Value.int IntKind.u8 (1:Int)),D.v (Value.int IntKind.u8 (IntKind.wrap IntKind.u8 (D.int d3))),D.k (Value.int IntKind.u8 (1:Int)),D.v (Value.int IntKind.u8 (IntKind.wrap IntKind.u8 (D.int d4))),D.k (Value.int IntKind.u8 (1:Int)),D.v (Value.int IntKind.u8 (IntKind.wrap IntKind.u8 (nI (BitVec.toNat (BitVec.ofInt 8 (IntKind.wrap IntKind.u8 (D.int d5))|||BitVec.ofInt 8 (128:Int)))))),D.v (Value.int IntKind.u8 (IntKind.wrap IntKind.u8 (Int.fdiv (D.int d5) ((2:Int) ^ 7))))] (Tok.tip 156))))) (M.pure (Rs.ret (D.sl true 5 [D.k (Value.int IntKind.u8 (3:Int)),D.k (Value.int IntKind.u8 (IntKind.wrap IntKind.u8 (IntKind.wrap IntKind.u64 (nI 3)))),D.k (Value.int IntKind.u8 (1:Int)),D.v (Value.int IntKind.u8 (IntKind.wrap IntKind.u8 (D.int d3))),D.k (Value.int IntKind.u8 (1:Int)),D.v (Value.int IntKind.u8 (IntKind.wrap IntKind.u8 (D.int d4))),D.k (Value.int IntKind.u8 (1:Int)),D.v (Value.int IntKind.u8 (IntKind.wrap IntKind.u8 (D.int d5)))] (Tok.tip 155))))))))))):=by kernel_rfl
theorem t_rec4(a b c:Int):callR cEnc lEnc 32 [.sl true 3 [ik 1,iv a,iv b,iv c] .non]=(M.call 104 [D.agg [iv (1:Int),iv (1:Int),D.v (Value.string { data:=#[] }),D.sl false 129 [] Tok.non]] [] fun d0 o0=>M.br (!D.bool (List.getD (D.parts d0) 1 D.any)) (M.pure (Rs.ret (D.k (Value.slice none 0 0)))) (M.call 104 [D.agg [iv (1:Int),iv a,D.v (Value.string { data:=#[] }),D.sl false 129 [] Tok.non]] [] fun d1 o1=>M.br (!D.bool (List.getD (D.parts d1) 1 D.any)) (M.pure (Rs.ret (D.k (Value.slice none 0 0)))) (M.call 104 [D.agg [iv (1:Int),iv b,D.v (Value.string { data:=#[] }),D.sl false 129 [] Tok.non]] [] fun d2 o2=>M.br (!D.bool (List.getD (D.parts d2) 1 D.any)) (M.pure (Rs.ret (D.k (Value.slice none 0 0)))) (M.call 104 [D.agg [iv (1:Int),iv c,D.v (Value.string { data:=#[] }),D.sl false 129 [] Tok.non]] [] fun d3 o3=>M.br (!D.bool (List.getD (D.parts d3) 1 D.any)) (M.pure (Rs.ret (D.k (Value.slice none 0 0)))) (M.br (decide (w64 ((if(if(if(if(0:Int)<D.int (List.getD (D.parts d0) 0 D.any)then D.int (List.getD (D.parts d0) 0 D.any)else(0:Int))<D.int (List.getD (D.parts d1) 0 D.any)then D.int (List.getD (D.parts d1) 0 D.any)else if(0:Int)<D.int (List.getD (D.parts d0) 0 D.any)then D.int (List.getD (D.parts d0) 0 D.any)else(0:Int))<D.int (List.getD (D.parts d2) 0 D.any)then D.int (List.getD (D.parts d2) 0 D.any)else if(if(0:Int)<D.int (List.getD (D.parts d0) 0 D.any)then D.int (List.getD (D.parts d0) 0 D.any)else(0:Int))<D.int (List.getD (D.parts d1) 0 D.any)then D.int (List.getD (D.parts d1) 0 D.any)else if(0:Int)<D.int (List.getD (D.parts d0) 0 D.any)then D.int (List.getD (D.parts d0) 0 D.any)else(0:Int))<D.int (List.getD (D.parts d3) 0 D.any)then D.int (List.getD (D.parts d3) 0 D.any)else if(if(if(0:Int)<D.int (List.getD (D.parts d0) 0 D.any)then D.int (List.getD (D.parts d0) 0 D.any)else(0:Int))<D.int (List.getD (D.parts d1) 0 D.any)then D.int (List.getD (D.parts d1) 0 D.any)else if(0:Int)<D.int (List.getD (D.parts d0) 0 D.any)then D.int (List.getD (D.parts d0) 0 D.any)else(0:Int))<D.int (List.getD (D.parts d2) 0 D.any)then D.int (List.getD (D.parts d2) 0 D.any)else if(if(0:Int)<D.int (List.getD (D.parts d0) 0 D.any)then D.int (List.getD (D.parts d0) 0 D.any)else(0:Int))<D.int (List.getD (D.parts d1) 0 D.any)then D.int (List.getD (D.parts d1) 0 D.any)else if(0:Int)<D.int (List.getD (D.parts d0) 0 D.any)then D.int (List.getD (D.parts d0) 0 D.any)else(0:Int))+(1:Int))>(16:Int))) (M.pure (Rs.ret (D.k (Value.slice none 0 0)))) (M.call 107 [iv (1:Int)] [] fun d4 o4=>M.br (decide (D.int d4≥(128:Int))) (M.br (decide (Int.fdiv (D.int d4) ((2:Int) ^ 7)≥(128:Int))) (M.bad 140) (M.call 107 [iv a] [] fun d5 o5=>M.br (decide (D.int d5≥(128:Int))) (M.br (decide (Int.fdiv (D.int d5) ((2:Int) ^ 7)≥(128:Int))) (M.bad 140) (M.call 107 [iv b] [] fun d6 o6=>M.br (decide (D.int d6≥(128:Int))) (M.br (decide (Int.fdiv (D.int d6) ((2:Int) ^ 7)≥(128:Int))) (M.bad 140) (M.call 107 [iv c] [] fun d7 o7=>M.br (decide (D.int d7≥(128:Int))) (M.br (decide (Int.fdiv (D.int d7) ((2:Int) ^ 7)≥(128:Int))) (M.bad 140) (M.pure (Rs.ret (D.sl true 5 [D.k (Value.int IntKind.u8 (3:Int)),D.k (Value.int IntKind.u8 (IntKind.wrap IntKind.u8 (IntKind.wrap IntKind.u64 (nI 4)))),D.k (Value.int IntKind.u8 (1:Int)),D.v (Value.int IntKind.u8 (IntKind.wrap IntKind.u8 (nI (BitVec.toNat (BitVec.ofInt 8 (IntKind.wrap IntKind.u8 (D.int d4))|||BitVec.ofInt 8 (128:Int)))))),D.v (Value.int IntKind.u8 (IntKind.wrap IntKind.u8 (Int.fdiv (D.int d4) ((2:Int) ^ 7)))),D.k (Value.int IntKind.u8 (1:Int)),D.v (Value.int IntKind.u8 (IntKind.wrap IntKind.u8 (nI (BitVec.toNat (BitVec.ofInt 8 (IntKind.wrap IntKind.u8 (D.int d5))|||BitVec.ofInt 8 (128:Int)))))),D.v (Value.int IntKind.u8 (IntKind.wrap IntKind.u8 (Int.fdiv (D.int d5) ((2:Int) ^ 7)))),D.k (Value.int IntKind.u8 (1:Int)),D.v (Value.int IntKind.u8 (IntKind.wrap IntKind.u8 (nI (BitVec.toNat (BitVec.ofInt 8 (IntKind.wrap IntKind.u8 (D.int d6))|||BitVec.ofInt 8 (128:Int)))))),D.v (Value.int IntKind.u8 (IntKind.wrap IntKind.u8 (Int.fdiv (D.int d6) ((2:Int) ^ 7)))),D.k (Value.int IntKind.u8 (1:Int)),D.v (Value.int IntKind.u8 (IntKind.wrap IntKind.u8 (nI (BitVec.toNat (BitVec.ofInt 8 (IntKind.wrap IntKind.u8 (D.int d7))|||BitVec.ofInt 8 (128:Int)))))),D.v (Value.int IntKind.u8 (IntKind.wrap IntKind.u8 (Int.fdiv (D.int d7) ((2:Int) ^ 7))))] (Tok.tip 197))))) (M.pure (Rs.ret (D.sl true 5 [D.k (Value.int IntKind.u8 (3:Int)),D.k (Value.int IntKind.u8 (IntKind.wrap IntKind.u8 (IntKind.wrap IntKind.u64 (nI 4)))),D.k (Value.int IntKind.u8 (1:Int)),D.v (Value.int IntKind.u8 (IntKind.wrap IntKind.u8 (nI (BitVec.toNat (BitVec.ofInt 8 (IntKind.wrap IntKind.u8 (D.int d4))|||BitVec.ofInt 8 (128:Int)))))),D.v (Value.int IntKind.u8 (IntKind.wrap IntKind.u8 (Int.fdiv (D.int d4) ((2:Int) ^ 7)))),D.k (Value.int IntKind.u8 (1:Int)),D.v (Value.int IntKind.u8 (IntKind.wrap IntKind.u8 (nI (BitVec.toNat (BitVec.ofInt 8 (IntKind.wrap IntKind.u8 (D.int d5))|||BitVec.ofInt 8 (128:Int)))))),D.v (Value.int IntKind.u8 (IntKind.wrap IntKind.u8 (Int.fdiv (D.int d5) ((2:Int) ^ 7)))),D.k (Value.int IntKind.u8 (1:Int)),D.v (Value.int IntKind.u8 (IntKind.wrap IntKind.u8 (nI (BitVec.toNat (BitVec.ofInt 8 (IntKind.wrap IntKind.u8 (D.int d6))|||BitVec.ofInt 8 (128:Int)))))),D.v (Value.int IntKind.u8 (IntKind.wrap IntKind.u8 (Int.fdiv (D.int d6) ((2:Int) ^ 7)))),D.k (Value.int IntKind.u8 (1:Int)),D.v (Value.int IntKind.u8 (IntKind.wrap IntKind.u8 (D.int d7)))] (Tok.tip 196)))))) (M.call 107 [iv c] [] fun d7 o7=>M.br (decide (D.int d7≥(128:Int))) (M.br (decide (Int.fdiv (D.int d7) ((2:Int) ^ 7)≥(128:Int))) (M.bad 140) (M.pure (Rs.ret (D.sl true 5 [D.k (Value.int IntKind.u8 (3:Int)),D.k (Value.int IntKind.u8 (IntKind.wrap IntKind.u8 (IntKind.wrap IntKind.u64 (nI 4)))),D.k (Value.int IntKind.u8 (1:Int)),D.v (Value.int IntKind.u8 (IntKind.wrap IntKind.u8 (nI (BitVec.toNat (BitVec.ofInt 8 (IntKind.wrap IntKind.u8 (D.int d4))|||BitVec.ofInt 8 (128:Int)))))),D.v (Value.int IntKind.u8 (IntKind.wrap IntKind.u8 (Int.fdiv (D.int d4) ((2:Int) ^ 7)))),D.k (Value.int IntKind.u8 (1:Int)),D.v (Value.int IntKind.u8 (IntKind.wrap IntKind.u8 (nI (BitVec.toNat (BitVec.ofInt 8 (IntKind.wrap IntKind.u8 (D.int d5))|||BitVec.ofInt 8 (128:Int)))))),D.v (Value.int IntKind.u8 (IntKind.wrap IntKind.u8 (Int.fdiv (D.int d5) ((2:Int) ^ 7)))),D.k (Value.int IntKind.u8 (1:Int)),D.v (Value.int IntKind.u8 (IntKind.wrap IntKind.u8 (D.int d6))),D.k (Value.int IntKind.u8 (1:Int)),D.v (Value.int IntKind.u8 (IntKind.wrap IntKind.u8 (nI (BitVec.toNat (BitVec.ofInt 8 (IntKind.wrap IntKind.u8 (D.int d7))|||BitVec.ofInt 8 (128:Int)))))),D.v (Value.int IntKind.u8 (IntKind.wrap IntKind.u8 (Int.fdiv (D.int d7) ((2:Int) ^ 7))))] (Tok.tip 196))))) (M.pure (Rs.ret (D.sl true 5 [D.k (Value.int IntKind.u8 (3:Int)),D.k (Value.int IntKind.u8 (IntKind.wrap IntKind.u8 (IntKind.wrap IntKind.u64 (nI 4)))),D.k (Value.int IntKind.u8 (1:Int)),D.v (Value.int IntKind.u8 (IntKind.wrap IntKind.u8 (nI (BitVec.toNat (BitVec.ofInt 8 (IntKind.wrap IntKind.u8 (D.int d4))|||BitVec.ofInt 8 (128:Int)))))),D.v (Value.int IntKind.u8 (IntKind.wrap IntKind.u8 (Int.fdiv (D.int d4) ((2:Int) ^ 7)))),D.k (Value.int IntKind.u8 (1:Int)),D.v (Value.int IntKind.u8 (IntKind.wrap IntKind.u8 (nI (BitVec.toNat (BitVec.ofInt 8 (IntKind.wrap IntKind.u8 (D.int d5))|||BitVec.ofInt 8 (128:Int)))))),D.v (Value.int IntKind.u8 (IntKind.wrap IntKind.u8 (Int.fdiv (D.int d5) ((2:Int) ^ 7)))),D.k (Value.int IntKind.u8 (1:Int)),D.v (Value.int IntKind.u8 (IntKind.wrap IntKind.u8 (D.int d6))),D.k (Value.int IntKind.u8 (1:Int)),D.v (Value.int IntKind.u8 (IntKind.wrap IntKind.u8 (D.int d7)))] (Tok.tip 195))))))) (M.call 107 [iv b] [] fun d6 o6=>M.br (decide (D.int d6≥(128:Int))) (M.br (decide (Int.fdiv (D.int d6) ((2:Int) ^ 7)≥(128:Int))) (M.bad 140) (M.call 107 [iv c] [] fun d7 o7=>M.br (decide (D.int d7≥(128:Int))) (M.br (decide (Int.fdiv (D.int d7) ((2:Int) ^ 7)≥(128:Int))) (M.bad 140) (M.pure (Rs.ret (D.sl true 5 [D.k (Value.int IntKind.u8 (3:Int)),D.k (Value.int IntKind.u8 (IntKind.wrap IntKind.u8 (IntKind.wrap IntKind.u64 (nI 4)))),D.k (Value.int IntKind.u8 (1:Int)),D.v (Value.int IntKind.u8 (IntKind.wrap IntKind.u8 (nI (BitVec.toNat (BitVec.ofInt 8 (IntKind.wrap IntKind.u8 (D.int d4))|||BitVec.ofInt 8 (128:Int)))))),D.v (Value.int IntKind.u8 (IntKind.wrap IntKind.u8 (Int.fdiv (D.int d4) ((2:Int) ^ 7)))),D.k (Value.int IntKind.u8 (1:Int)),D.v (Value.int IntKind.u8 (IntKind.wrap IntKind.u8 (D.int d5))),D.k (Value.int IntKind.u8 (1:Int)),D.v (Value.int IntKind.u8 (IntKind.wrap IntKind.u8 (nI (BitVec.toNat (BitVec.ofInt 8 (IntKind.wrap IntKind.u8 (D.int d6))|||BitVec.ofInt 8 (128:Int)))))),D.v (Value.int IntKind.u8 (IntKind.wrap IntKind.u8 (Int.fdiv (D.int d6) ((2:Int) ^ 7)))),D.k (Value.int IntKind.u8 (1:Int)),D.v (Value.int IntKind.u8 (IntKind.wrap IntKind.u8 (nI (BitVec.toNat (BitVec.ofInt 8 (IntKind.wrap IntKind.u8 (D.int d7))|||BitVec.ofInt 8 (128:Int)))))),D.v (Value.int IntKind.u8 (IntKind.wrap IntKind.u8 (Int.fdiv (D.int d7) ((2:Int) ^ 7))))] (Tok.tip 196))))) (M.pure (Rs.ret (D.sl true 5 [D.k (Value.int IntKind.u8 (3:Int)),D.k (Value.int IntKind.u8 (IntKind.wrap IntKind.u8 (IntKind.wrap IntKind.u64 (nI 4)))),D.k (Value.int IntKind.u8 (1:Int)),D.v (Value.int IntKind.u8 (IntKind.wrap IntKind.u8 (nI (BitVec.toNat (BitVec.ofInt 8 (IntKind.wrap IntKind.u8 (D.int d4))|||BitVec.ofInt 8 (128:Int)))))),D.v (Value.int IntKind.u8 (IntKind.wrap IntKind.u8 (Int.fdiv (D.int d4) ((2:Int) ^ 7)))),D.k (Value.int IntKind.u8 (1:Int)),D.v (Value.int IntKind.u8 (IntKind.wrap IntKind.u8 (D.int d5))),D.k (Value.int IntKind.u8 (1:Int)),D.v (Value.int IntKind.u8 (IntKind.wrap IntKind.u8 (nI (BitVec.toNat (BitVec.ofInt 8 (IntKind.wrap IntKind.u8 (D.int d6))|||BitVec.ofInt 8 (128:Int)))))),D.v (Value.int IntKind.u8 (IntKind.wrap IntKind.u8 (Int.fdiv (D.int d6) ((2:Int) ^ 7)))),D.k (Value.int IntKind.u8 (1:Int)),D.v (Value.int IntKind.u8 (IntKind.wrap IntKind.u8 (D.int d7)))] (Tok.tip 195)))))) (M.call 107 [iv c] [] fun d7 o7=>M.br (decide (D.int d7≥(128:Int))) (M.br (decide (Int.fdiv (D.int d7) ((2:Int) ^ 7)≥(128:Int))) (M.bad 140) (M.pure (Rs.ret (D.sl true 5 [D.k (Value.int IntKind.u8 (3:Int)),D.k (Value.int IntKind.u8 (IntKind.wrap IntKind.u8 (IntKind.wrap IntKind.u64 (nI 4)))),D.k (Value.int IntKind.u8 (1:Int)),D.v (Value.int IntKind.u8 (IntKind.wrap IntKind.u8 (nI (BitVec.toNat (BitVec.ofInt 8 (IntKind.wrap IntKind.u8 (D.int d4))|||BitVec.ofInt 8 (128:Int)))))),D.v (Value.int IntKind.u8 (IntKind.wrap IntKind.u8 (Int.fdiv (D.int d4) ((2:Int) ^ 7)))),D.k (Value.int IntKind.u8 (1:Int)),D.v (Value.int IntKind.u8 (IntKind.wrap IntKind.u8 (D.int d5))),D.k (Value.int IntKind.u8 (1:Int)),D.v (Value.int IntKind.u8 (IntKind.wrap IntKind.u8 (D.int d6))),D.k (Value.int IntKind.u8 (1:Int)),D.v (Value.int IntKind.u8 (IntKind.wrap IntKind.u8 (nI (BitVec.toNat (BitVec.ofInt 8 (IntKind.wrap IntKind.u8 (D.int d7))|||BitVec.ofInt 8 (128:Int)))))),D.v (Value.int IntKind.u8 (IntKind.wrap IntKind.u8 (Int.fdiv (D.int d7) ((2:Int) ^ 7))))] (Tok.tip 195))))) (M.pure (Rs.ret (D.sl true 5 [D.k (Value.int IntKind.u8 (3:Int)),D.k (Value.int IntKind.u8 (IntKind.wrap IntKind.u8 (IntKind.wrap IntKind.u64 (nI 4)))),D.k (Value.int IntKind.u8 (1:Int)),D.v (Value.int IntKind.u8 (IntKind.wrap IntKind.u8 (nI (BitVec.toNat (BitVec.ofInt 8 (IntKind.wrap IntKind.u8 (D.int d4))|||BitVec.ofInt 8 (128:Int)))))),D.v (Value.int IntKind.u8 (IntKind.wrap IntKind.u8 (Int.fdiv (D.int d4) ((2:Int) ^ 7)))),D.k (Value.int IntKind.u8 (1:Int)),D.v (Value.int IntKind.u8 (IntKind.wrap IntKind.u8 (D.int d5))),D.k (Value.int IntKind.u8 (1:Int)),D.v (Value.int IntKind.u8 (IntKind.wrap IntKind.u8 (D.int d6))),D.k (Value.int IntKind.u8 (1:Int)),D.v (Value.int IntKind.u8 (IntKind.wrap IntKind.u8 (D.int d7)))] (Tok.tip 194)))))))) (M.call 107 [iv a] [] fun d5 o5=>M.br (decide (D.int d5≥(128:Int))) (M.br (decide (Int.fdiv (D.int d5) ((2:Int) ^ 7)≥(128:Int))) (M.bad 140) (M.call 107 [iv b] [] fun d6 o6=>M.br (decide (D.int d6≥(128:Int))) (M.br (decide (Int.fdiv (D.int d6) ((2:Int) ^ 7)≥(128:Int))) (M.bad 140) (M.call 107 [iv c] [] fun d7 o7=>M.br (decide (D.int d7≥(128:Int))) (M.br (decide (Int.fdiv (D.int d7) ((2:Int) ^ 7)≥(128:Int))) (M.bad 140) (M.pure (Rs.ret (D.sl true 5 [D.k (Value.int IntKind.u8 (3:Int)),D.k (Value.int IntKind.u8 (IntKind.wrap IntKind.u8 (IntKind.wrap IntKind.u64 (nI 4)))),D.k (Value.int IntKind.u8 (1:Int)),D.v (Value.int IntKind.u8 (IntKind.wrap IntKind.u8 (D.int d4))),D.k (Value.int IntKind.u8 (1:Int)),D.v (Value.int IntKind.u8 (IntKind.wrap IntKind.u8 (nI (BitVec.toNat (BitVec.ofInt 8 (IntKind.wrap IntKind.u8 (D.int d5))|||BitVec.ofInt 8 (128:Int)))))),D.v (Value.int IntKind.u8 (IntKind.wrap IntKind.u8 (Int.fdiv (D.int d5) ((2:Int) ^ 7)))),D.k (Value.int IntKind.u8 (1:Int)),D.v (Value.int IntKind.u8 (IntKind.wrap IntKind.u8 (nI (BitVec.toNat (BitVec.ofInt 8 (IntKind.wrap IntKind.u8 (D.int d6))|||BitVec.ofInt 8 (128:Int)))))),D.v (Value.int IntKind.u8 (IntKind.wrap IntKind.u8 (Int.fdiv (D.int d6) ((2:Int) ^ 7)))),D.k (Value.int IntKind.u8 (1:Int)),D.v (Value.int IntKind.u8 (IntKind.wrap IntKind.u8 (nI (BitVec.toNat (BitVec.ofInt 8 (IntKind.wrap IntKind.u8 (D.int d7))|||BitVec.ofInt 8 (128:Int)))))),D.v (Value.int IntKind.u8 (IntKind.wrap IntKind.u8 (Int.fdiv (D.int d7) ((2:Int) ^ 7))))] (Tok.tip 196))))) (M.pure (Rs.ret (D.sl true 5 [D.k (Value.int IntKind.u8 (3:Int)),D.k (Value.int IntKind.u8 (IntKind.wrap IntKind.u8 (IntKind.wrap IntKind.u64 (nI 4)))),D.k (Value.int IntKind.u8 (1:Int)),D.v (Value.int IntKind.u8 (IntKind.wrap IntKind.u8 (D.int d4))),D.k (Value.int IntKind.u8 (1:Int)),D.v (Value.int IntKind.u8 (IntKind.wrap IntKind.u8 (nI (BitVec.toNat (BitVec.ofInt 8 (IntKind.wrap IntKind.u8 (D.int d5))|||BitVec.ofInt 8 (128:Int)))))),D.v (Value.int IntKind.u8 (IntKind.wrap IntKind.u8 (Int.fdiv (D.int d5) ((2:Int) ^ 7)))),D.k (Value.int IntKind.u8 (1:Int)),D.v (Value.int IntKind.u8 (IntKind.wrap IntKind.u8 (nI (BitVec.toNat (BitVec.ofInt 8 (IntKind.wrap IntKind.u8 (D.int d6))|||BitVec.ofInt 8 (128:Int)))))),D.v (Value.int IntKind.u8 (IntKind.wrap IntKind.u8 (Int.fdiv (D.int d6) ((2:Int) ^ 7)))),D.k (Value.int IntKind.u8 (1:Int)),D.v (Value.int IntKind.u8 (IntKind.wrap IntKind.u8 (D.int d7)))] (Tok.tip 195)))))) (M.call 107 [iv c] [] fun d7 o7=>M.br (decide (D.int d7≥(128:Int))) (M.br (decide (Int.fdiv (D.int d7) ((2:Int) ^ 7)≥(128:Int))) (M.bad 140) (M.pure (Rs.ret (D.sl true 5 [D.k (Value.int IntKind.u8 (3:Int)),D.k (Value.int IntKind.u8 (IntKind.wrap IntKind.u8 (IntKind.wrap IntKind.u64 (nI 4)))),D.k (Value.int IntKind.u8 (1:Int)),D.v (Value.int IntKind.u8 (IntKind.wrap IntKind.u8 (D.int d4))),D.k (Value.int IntKind.u8 (1:Int)),D.v (Value.int IntKind.u8 (IntKind.wrap IntKind.u8 (nI (BitVec.toNat (BitVec.ofInt 8 (IntKind.wrap IntKind.u8 (D.int d5))|||BitVec.ofInt 8 (128:Int)))))),D.v (Value.int IntKind.u8 (IntKind.wrap IntKind.u8 (Int.fdiv (D.int d5) ((2:Int) ^ 7)))),D.k (Value.int IntKind.u8 (1:Int)),D.v (Value.int IntKind.u8 (IntKind.wrap IntKind.u8 (D.int d6))),D.k (Value.int IntKind.u8 (1:Int)),D.v (Value.int IntKind.u8 (IntKind.wrap IntKind.u8 (nI (BitVec.toNat (BitVec.ofInt 8 (IntKind.wrap IntKind.u8 (D.int d7))|||BitVec.ofInt 8 (128:Int)))))),D.v (Value.int IntKind.u8 (IntKind.wrap IntKind.u8 (Int.fdiv (D.int d7) ((2:Int) ^ 7))))] (Tok.tip 195))))) (M.pure (Rs.ret (D.sl true 5 [D.k (Value.int IntKind.u8 (3:Int)),D.k (Value.int IntKind.u8 (IntKind.wrap IntKind.u8 (IntKind.wrap IntKind.u64 (nI 4)))),D.k (Value.int IntKind.u8 (1:Int)),D.v (Value.int IntKind.u8 (IntKind.wrap IntKind.u8 (D.int d4))),D.k (Value.int IntKind.u8 (1:Int)),D.v (Value.int IntKind.u8 (IntKind.wrap IntKind.u8 (nI (BitVec.toNat (BitVec.ofInt 8 (IntKind.wrap IntKind.u8 (D.int d5))|||BitVec.ofInt 8 (128:Int)))))),D.v (Value.int IntKind.u8 (IntKind.wrap IntKind.u8 (Int.fdiv (D.int d5) ((2:Int) ^ 7)))),D.k (Value.int IntKind.u8 (1:Int)),D.v (Value.int IntKind.u8 (IntKind.wrap IntKind.u8 (D.int d6))),D.k (Value.int IntKind.u8 (1:Int)),D.v (Value.int IntKind.u8 (IntKind.wrap IntKind.u8 (D.int d7)))] (Tok.tip 194))))))) (M.call 107 [iv b] [] fun d6 o6=>M.br (decide (D.int d6≥(128:Int))) (M.br (decide (Int.fdiv (D.int d6) ((2:Int) ^ 7)≥(128:Int))) (M.bad 140) (M.call 107 [iv c] [] fun d7 o7=>M.br (decide (D.int d7≥(128:Int))) (M.br (decide (Int.fdiv (D.int d7) ((2:Int) ^ 7)≥(128:Int))) (M.bad 140) (M.pure (Rs.ret (D.sl true 5 [D.k (Value.int IntKind.u8 (3:Int)),D.k (Value.int IntKind.u8 (IntKind.wrap IntKind.u8 (IntKind.wrap IntKind.u64 (nI 4)))),D.k (Value.int IntKind.u8 (1:Int)),D.v (Value.int IntKind.u8 (IntKind.wrap IntKind.u8 (D.int d4))),D.k (Value.int IntKind.u8 (1:Int)),D.v (Value.int IntKind.u8 (IntKind.wrap IntKind.u8 (D.int d5))),D.k (Value.int IntKind.u8 (1:Int)),D.v (Value.int IntKind.u8 (IntKind.wrap IntKind.u8 (nI (BitVec.toNat (BitVec.ofInt 8 (IntKind.wrap IntKind.u8 (D.int d6))|||BitVec.ofInt 8 (128:Int)))))),D.v (Value.int IntKind.u8 (IntKind.wrap IntKind.u8 (Int.fdiv (D.int d6) ((2:Int) ^ 7)))),D.k (Value.int IntKind.u8 (1:Int)),D.v (Value.int IntKind.u8 (IntKind.wrap IntKind.u8 (nI (BitVec.toNat (BitVec.ofInt 8 (IntKind.wrap IntKind.u8 (D.int d7))|||BitVec.ofInt 8 (128:Int)))))),D.v (Value.int IntKind.u8 (IntKind.wrap IntKind.u8 (Int.fdiv (D.int d7) ((2:Int) ^ 7))))] (Tok.tip 195))))) (M.pure (Rs.ret (D.sl true 5 [D.k (Value.int IntKind.u8 (3:Int)),D.k (Value.int IntKind.u8 (IntKind.wrap IntKind.u8 (IntKind.wrap IntKind.u64 (nI 4)))),D.k (Value.int IntKind.u8 (1:Int)),D.v (Value.int IntKind.u8 (IntKind.wrap IntKind.u8 (D.int d4))),D.k (Value.int IntKind.u8 (1:Int)),D.v (Value.int IntKind.u8 (IntKind.wrap IntKind.u8 (D.int d5))),D.k (Value.int IntKind.u8 (1:Int)),D.v (Value.int IntKind.u8 (IntKind.wrap IntKind.u8 (nI (BitVec.toNat (BitVec.ofInt 8 (IntKind.wrap IntKind.u8 (D.int d6))|||BitVec.ofInt 8 (128:Int)))))),D.v (Value.int IntKind.u8 (IntKind.wrap IntKind.u8 (Int.fdiv (D.int d6) ((2:Int) ^ 7)))),D.k (Value.int IntKind.u8 (1:Int)),D.v (Value.int IntKind.u8 (IntKind.wrap IntKind.u8 (D.int d7)))] (Tok.tip 194)))))) (M.call 107 [iv c] [] fun d7 o7=>M.br (decide (D.int d7≥(128:Int))) (M.br (decide (Int.fdiv (D.int d7) ((2:Int) ^ 7)≥(128:Int))) (M.bad 140) (M.pure (Rs.ret (D.sl true 5 [D.k (Value.int IntKind.u8 (3:Int)),D.k (Value.int IntKind.u8 (IntKind.wrap IntKind.u8 (IntKind.wrap IntKind.u64 (nI 4)))),D.k (Value.int IntKind.u8 (1:Int)),D.v (Value.int IntKind.u8 (IntKind.wrap IntKind.u8 (D.int d4))),D.k (Value.int IntKind.u8 (1:Int)),D.v (Value.int IntKind.u8 (IntKind.wrap IntKind.u8 (D.int d5))),D.k (Value.int IntKind.u8 (1:Int)),D.v (Value.int IntKind.u8 (IntKind.wrap IntKind.u8 (D.int d6))),D.k (Value.int IntKind.u8 (1:Int)),D.v (Value.int IntKind.u8 (IntKind.wrap IntKind.u8 (nI (BitVec.toNat (BitVec.ofInt 8 (IntKind.wrap IntKind.u8 (D.int d7))|||BitVec.ofInt 8 (128:Int)))))),D.v (Value.int IntKind.u8 (IntKind.wrap IntKind.u8 (Int.fdiv (D.int d7) ((2:Int) ^ 7))))] (Tok.tip 194))))) (M.pure (Rs.ret (D.sl true 5 [D.k (Value.int IntKind.u8 (3:Int)),D.k (Value.int IntKind.u8 (IntKind.wrap IntKind.u8 (IntKind.wrap IntKind.u64 (nI 4)))),D.k (Value.int IntKind.u8 (1:Int)),D.v (Value.int IntKind.u8 (IntKind.wrap IntKind.u8 (D.int d4))),D.k (Value.int IntKind.u8 (1:Int)),D.v (Value.int IntKind.u8 (IntKind.wrap IntKind.u8 (D.int d5))),D.k (Value.int IntKind.u8 (1:Int)),D.v (Value.int IntKind.u8 (IntKind.wrap IntKind.u8 (D.int d6))),D.k (Value.int IntKind.u8 (1:Int)),D.v (Value.int IntKind.u8 (IntKind.wrap IntKind.u8 (D.int d7)))] (Tok.tip 193))))))))))))):=by kernel_rfl
abbrev u8 (n:Int):D:=.v (.int .u8 n)
def eU(u:Int):List D:=if decide (u≥128)=true then [u8 (IntKind.wrap .u8 (nI ((BitVec.ofInt 8 (IntKind.wrap .u8 u)|||BitVec.ofInt 8 128).toNat))),u8 (IntKind.wrap .u8 (Int.fdiv u ((2:Int) ^ 7)))]else [u8 (IntKind.wrap .u8 u)]
def eL(l:List Int):List D:=u8 3::u8 (l.length:Int)::l.flatMap fun n=>u8 1::eU (2*n)
theorem den_k{I:Gh}{α:Al}{x y:Value}(h:Den (tyOf PP) I α (.v x) y):Den (tyOf PP) I α (.k x) y:=by cases h with|v h=>exact .k h
theorem den_kn{I:Gh}{α:Al}{t:TypeId}{l:List D}{y:Value}(h:Den (tyOf PP) I α (.sl false t l .non) y):Den (tyOf PP) I α (.sl true t l .non) y:=by cases h with|sl h1 h2 h3=>exact .sl h1 trivial h3
theorem fI_ok(n:Int)(h:Heap):CallSd PP 104 [.agg [iv 1,iv n,.v (.string .empty),sl 129 []]] h (.ret (.tup [iv 0,bv true])) h:=by
 refine CallSd.sub (a:=[.agg [ik 1,iv n,.k (.string .empty),.sl true 129 [] .non]]) rfl (fun j d e g1 g2=>?_) (con_of (E:=E0) (Γ:=consΓ (P:=PP) []) (C:=cFI) (l:=[104]) (.tup [kI,kB]) (cons_ok rfl) (named_none (by kernel_rfl) (by kernel_rfl) (fun c s=>rfl) (NamedT.nil (P:=PP))) rfl rfl rfl (to_wp ?_) h)
 ·intro I α x hd
  cases j with
  | succ j=>simp at g1
  | zero =>
   obtain rfl:=Option.some.inj g1
   obtain rfl:=Option.some.inj g2
   cases hd with
   | agg hl hd =>
    refine .agg hl fun j d x k1 k2=>?_
    match j,k1 with
    | 0,k1=>obtain rfl:=Option.some.inj k1;exact den_k (hd 0 _ x rfl k2)
    | 1,k1=>obtain rfl:=Option.some.inj k1;exact hd 1 _ x rfl k2
    | 2,k1=>obtain rfl:=Option.some.inj k1;exact den_k (hd 2 _ x rfl k2)
    | 3,k1=>obtain rfl:=Option.some.inj k1;exact den_kn (hd 3 _ x rfl k2)
    | j+4,k1=>simp at k1
 rw [t_fI]
 exact⟨fun _=>⟨fun _=>⟨_,_,rfl,rfl,rfl⟩,fun _=>⟨_,_,rfl,rfl,rfl⟩⟩,fun _=>⟨fun _=>⟨_,_,rfl,rfl,rfl⟩,fun _=>⟨_,_,rfl,rfl,rfl⟩⟩⟩
theorem wrap_u64{x:Int}(h1:0≤x)(h2:x≤18446744073709551615):IntKind.u64.wrap x=x:=by
 simp only [IntKind.wrap,IntKind.signed,IntKind.bits];simp;omega
theorem un_ok(n:Int)(h1:0≤n)(h2:n<8192)(h:Heap):CallSd PP 107 [iv n] h (.ret (.v (.int .u64 (2*n)))) h:=by
 refine con_of (E:=E0) (Γ:=consΓ (P:=PP) []) (C:=cFI) (l:=[107]) (.one (.one (.i .u64))) (cons_ok rfl) (named_plain (by kernel_rfl) (NamedT.nil (P:=PP))) rfl rfl rfl (to_wp ?_) h
 rw [t_un]
 refine⟨_,_,rfl,rfl,?_⟩
 have e1:Int.fdiv n ((2:Int) ^ 63)=0:=by
  rw [Int.fdiv_eq_ediv_of_nonneg _ (by decide)]
  exact Int.ediv_eq_zero_of_lt h1 (by omega)
 rw [e1,wrap_u64 (x:=0) (by omega) (by omega),wrap_u64 h1 (by omega),wrap_u64 (x:=n*(2:Int) ^ 1) (by omega) (by omega)]
 obtain⟨k,rfl⟩:∃ k:Nat,n=k:=⟨n.toNat,by omega⟩
 have e2:(BitVec.ofInt 64 ((k:Int)*(2:Int) ^ 1)^^^BitVec.ofInt 64 0).toNat=2*k:=by
  rw [show((k:Int)*(2:Int) ^ 1)=((2*k:Nat):Int) by omega,BitVec.ofInt_natCast]
  simp
  omega
 rw [e2]
 show D.v (.int .u64 (IntKind.u64.wrap (nI (2*k))))=_
 rw [wrap_u64 (by simp only [nI];omega) (by simp only [nI];omega)]
 simp [nI]
def conFI:Con PP:=⟨104,[kVa],.tup [kI,kB],fun args d=>∃ n,args=[.agg [iv 1,iv n,.v (.string .empty),sl 129 []]]∧d=.tup [iv 0,bv true],fun args d ⟨n,ha,hd⟩ h=>by subst ha;subst hd;exact fI_ok n h⟩
def conUn:Con PP:=⟨107,[kI],.one (.one (.i .u64)),fun args d=>∃ n,0≤n∧n<8192∧args=[iv n]∧d=.v (.int .u64 (2*n)),fun args d ⟨n,h1,h2,ha,hd⟩ h=>by subst ha;subst hd;exact un_ok n h1 h2 h⟩
theorem big_no{n:Int}(h2:n<8192)(h:decide (Int.fdiv (2*n) ((2:Int) ^ 7)≥128)=true):False:=by
 have h:=of_decide_eq_true h
 rw [Int.fdiv_eq_ediv_of_nonneg _ (by decide)]at h
 omega
theorem eU_t{u:Int}(h:decide (u≥128)=true):eU u=[u8 (IntKind.wrap .u8 (nI ((BitVec.ofInt 8 (IntKind.wrap .u8 u)|||BitVec.ofInt 8 128).toNat))),u8 (IntKind.wrap .u8 (Int.fdiv u ((2:Int) ^ 7)))]:=if_pos h
theorem eU_f{u:Int}(h:decide (u≥128)=false):eU u=[u8 (IntKind.wrap .u8 u)]:=if_neg (by rw [h];simp)
theorem rec3_ok(a b:Int)(ha:0≤a∧a<8192)(hb:0≤b∧b<8192)(h:Heap):CallSd PP 32 [.sl true 3 [ik 2,iv a,iv b] .non] h (.ret (sl 5 (eL [2,a,b]))) h:=by
 refine con_of (E:=E0) (Γ:=consΓ [conFI,conUn]) (C:=cEnc) (l:=lEnc) (.one (.one (.sl 5))) (cons_ok rfl) ?_ rfl rfl rfl (to_wp ?_) h
 ·exact named_free (fun f t c s=>rfl) (List.all_eq_true.1 (by kernel_rfl:lEnc.all freeB=true))
 rw [t_rec3]
 have no:∀ {Q:Prop},(!true)=true→Q:=fun h=>nomatch h
 refine⟨_,[],⟨conFI,rfl,_,⟨2,rfl,rfl⟩,rfl⟩,(fun h=>no h),fun _=>?_⟩
 refine⟨_,[],⟨conFI,rfl,_,⟨a,rfl,rfl⟩,rfl⟩,(fun h=>no h),fun _=>?_⟩
 refine⟨_,[],⟨conFI,rfl,_,⟨b,rfl,rfl⟩,rfl⟩,(fun h=>no h),fun _=>?_⟩
 refine⟨(fun h=>nomatch h),fun _=>?_⟩
 refine⟨_,[],⟨conUn,rfl,_,⟨2,by omega,by omega,rfl,rfl⟩,rfl⟩,(fun h=>nomatch h),fun _=>?_⟩
 refine⟨_,[],⟨conUn,rfl,_,⟨a,ha.1,ha.2,rfl,rfl⟩,rfl⟩,fun h1=>⟨fun h=>(big_no ha.2 h).elim,fun _=>⟨_,[],⟨conUn,rfl,_,⟨b,hb.1,hb.2,rfl,rfl⟩,rfl⟩,fun h2=>⟨fun h=>(big_no hb.2 h).elim,fun _=>?_⟩,fun h2=>?_⟩⟩,fun h1=>⟨_,[],⟨conUn,rfl,_,⟨b,hb.1,hb.2,rfl,rfl⟩,rfl⟩,fun h2=>⟨fun h=>(big_no hb.2 h).elim,fun _=>?_⟩,fun h2=>?_⟩⟩
 ·have h1:decide (2*a≥128)=true:=h1
  have h2:decide (2*b≥128)=true:=h2
  refine⟨_,_,rfl,rfl,?_⟩
  simp only [eL,List.flatMap_cons,List.flatMap_nil,eU_t h1,eU_t h2]
  rfl
 ·have h1:decide (2*a≥128)=true:=h1
  have h2:decide (2*b≥128)=false:=h2
  refine⟨_,_,rfl,rfl,?_⟩
  simp only [eL,List.flatMap_cons,List.flatMap_nil,eU_t h1,eU_f h2]
  rfl
 ·have h1:decide (2*a≥128)=false:=h1
  have h2:decide (2*b≥128)=true:=h2
  refine⟨_,_,rfl,rfl,?_⟩
  simp only [eL,List.flatMap_cons,List.flatMap_nil,eU_f h1,eU_t h2]
  rfl
 have h1:decide (2*a≥128)=false:=h1
 have h2:decide (2*b≥128)=false:=h2
 refine⟨_,_,rfl,rfl,?_⟩
 simp only [eL,List.flatMap_cons,List.flatMap_nil,eU_f h1,eU_f h2]
 rfl
theorem rec4_ok(a b c:Int)(ha:0≤a∧a<8192)(hb:0≤b∧b<8192)(hc:0≤c∧c<8192)(h:Heap):CallSd PP 32 [.sl true 3 [ik 1,iv a,iv b,iv c] .non] h (.ret (sl 5 (eL [1,a,b,c]))) h:=by
 refine con_of (E:=E0) (Γ:=consΓ [conFI,conUn]) (C:=cEnc) (l:=lEnc) (.one (.one (.sl 5))) (cons_ok rfl) ?_ rfl rfl rfl (to_wp ?_) h
 ·exact named_free (fun f t c s=>rfl) (List.all_eq_true.1 (by kernel_rfl:lEnc.all freeB=true))
 rw [t_rec4]
 have no:∀ {Q:Prop},(!true)=true→Q:=fun h=>nomatch h
 refine⟨_,[],⟨conFI,rfl,_,⟨1,rfl,rfl⟩,rfl⟩,(fun h=>no h),fun _=>?_⟩
 refine⟨_,[],⟨conFI,rfl,_,⟨a,rfl,rfl⟩,rfl⟩,(fun h=>no h),fun _=>?_⟩
 refine⟨_,[],⟨conFI,rfl,_,⟨b,rfl,rfl⟩,rfl⟩,(fun h=>no h),fun _=>?_⟩
 refine⟨_,[],⟨conFI,rfl,_,⟨c,rfl,rfl⟩,rfl⟩,(fun h=>no h),fun _=>?_⟩
 refine⟨(fun h=>nomatch h),fun _=>?_⟩
 refine⟨_,[],⟨conUn,rfl,_,⟨1,by omega,by omega,rfl,rfl⟩,rfl⟩,(fun h=>nomatch h),fun _=>?_⟩
 refine⟨_,[],⟨conUn,rfl,_,⟨a,ha.1,ha.2,rfl,rfl⟩,rfl⟩,fun h1=>⟨fun h=>(big_no ha.2 h).elim,fun _=>⟨_,[],⟨conUn,rfl,_,⟨b,hb.1,hb.2,rfl,rfl⟩,rfl⟩,fun h2=>⟨fun h=>(big_no hb.2 h).elim,fun _=>⟨_,[],⟨conUn,rfl,_,⟨c,hc.1,hc.2,rfl,rfl⟩,rfl⟩,fun h3=>⟨fun h=>(big_no hc.2 h).elim,fun _=>?_⟩,fun h3=>?_⟩⟩,fun h2=>⟨_,[],⟨conUn,rfl,_,⟨c,hc.1,hc.2,rfl,rfl⟩,rfl⟩,fun h3=>⟨fun h=>(big_no hc.2 h).elim,fun _=>?_⟩,fun h3=>?_⟩⟩⟩,fun h1=>⟨_,[],⟨conUn,rfl,_,⟨b,hb.1,hb.2,rfl,rfl⟩,rfl⟩,fun h2=>⟨fun h=>(big_no hb.2 h).elim,fun _=>⟨_,[],⟨conUn,rfl,_,⟨c,hc.1,hc.2,rfl,rfl⟩,rfl⟩,fun h3=>⟨fun h=>(big_no hc.2 h).elim,fun _=>?_⟩,fun h3=>?_⟩⟩,fun h2=>⟨_,[],⟨conUn,rfl,_,⟨c,hc.1,hc.2,rfl,rfl⟩,rfl⟩,fun h3=>⟨fun h=>(big_no hc.2 h).elim,fun _=>?_⟩,fun h3=>?_⟩⟩⟩
 ·have h1:decide (2*a≥128)=true:=h1
  have h2:decide (2*b≥128)=true:=h2
  have h3:decide (2*c≥128)=true:=h3
  refine⟨_,_,rfl,rfl,?_⟩
  simp only [eL,List.flatMap_cons,List.flatMap_nil,eU_t h1,eU_t h2,eU_t h3]
  rfl
 ·have h1:decide (2*a≥128)=true:=h1
  have h2:decide (2*b≥128)=true:=h2
  have h3:decide (2*c≥128)=false:=h3
  refine⟨_,_,rfl,rfl,?_⟩
  simp only [eL,List.flatMap_cons,List.flatMap_nil,eU_t h1,eU_t h2,eU_f h3]
  rfl
 ·have h1:decide (2*a≥128)=true:=h1
  have h2:decide (2*b≥128)=false:=h2
  have h3:decide (2*c≥128)=true:=h3
  refine⟨_,_,rfl,rfl,?_⟩
  simp only [eL,List.flatMap_cons,List.flatMap_nil,eU_t h1,eU_f h2,eU_t h3]
  rfl
 ·have h1:decide (2*a≥128)=true:=h1
  have h2:decide (2*b≥128)=false:=h2
  have h3:decide (2*c≥128)=false:=h3
  refine⟨_,_,rfl,rfl,?_⟩
  simp only [eL,List.flatMap_cons,List.flatMap_nil,eU_t h1,eU_f h2,eU_f h3]
  rfl
 ·have h1:decide (2*a≥128)=false:=h1
  have h2:decide (2*b≥128)=true:=h2
  have h3:decide (2*c≥128)=true:=h3
  refine⟨_,_,rfl,rfl,?_⟩
  simp only [eL,List.flatMap_cons,List.flatMap_nil,eU_f h1,eU_t h2,eU_t h3]
  rfl
 ·have h1:decide (2*a≥128)=false:=h1
  have h2:decide (2*b≥128)=true:=h2
  have h3:decide (2*c≥128)=false:=h3
  refine⟨_,_,rfl,rfl,?_⟩
  simp only [eL,List.flatMap_cons,List.flatMap_nil,eU_f h1,eU_t h2,eU_f h3]
  rfl
 ·have h1:decide (2*a≥128)=false:=h1
  have h2:decide (2*b≥128)=false:=h2
  have h3:decide (2*c≥128)=true:=h3
  refine⟨_,_,rfl,rfl,?_⟩
  simp only [eL,List.flatMap_cons,List.flatMap_nil,eU_f h1,eU_f h2,eU_t h3]
  rfl
 have h1:decide (2*a≥128)=false:=h1
 have h2:decide (2*b≥128)=false:=h2
 have h3:decide (2*c≥128)=false:=h3
 refine⟨_,_,rfl,rfl,?_⟩
 simp only [eL,List.flatMap_cons,List.flatMap_nil,eU_f h1,eU_f h2,eU_f h3]
 rfl
def scal:D→Bool
 | .k _=>true
 | .v _=>true
 | _=>false
theorem el_sc{ty:Ty}{d:D}(h:scal d=true)(he:ElOk ty d.vv):ElOk ty d:=by
 cases d with
 | v x=>exact he
 | k x =>
  obtain⟨h1,h2,h3⟩:=he
  refine⟨?_,fun j c e q1 q2=>?_,fun e he=>?_⟩
  ·unfold SzOk at h1 ⊢
   split at h1
   ·obtain⟨l,h4,_⟩:=h1;cases h4
   exact⟨fun l hl=>by(cases hl),h1.2⟩
  ·match j,q2 with
   | 0,q2 =>
    obtain rfl:=Option.some.inj q2
    have:=h2 0 c (.v x) q1 rfl
    cases c with
    | i k=>obtain⟨n,h4|h4⟩:=this<;>cases h4;exact⟨n,.inl rfl⟩
    | b=>obtain⟨n,h4|h4⟩:=this<;>cases h4;exact⟨n,.inl rfl⟩
    | s=>obtain⟨n,h4|h4⟩:=this<;>cases h4;exact⟨n,.inl rfl⟩
    | sl t=>obtain⟨kn,l,tk,h4⟩:=this;cases h4
    | o=>exact this
   | j+1,q2=>simp [D.cells]at q2
  obtain rfl:e=.k x:=by simpa [D.cells]using he
  rfl
 | _=>cases h
theorem den_sc{I:Gh}{α:Al}{d:D}{x:Value}(h:scal d=true)(hd:Den (tyOf PP) I α d.vv x):Den (tyOf PP) I α d x:=by
 cases d with
 | v x=>exact hd
 | k x=>exact den_k hd
 | _=>cases h
theorem den_sk{I:Gh}{α:Al}{kn:Bool}{t:TypeId}{l l':List D}{y:Value}(e:vvL l'=vvL l)(hs:∀ d∈l',scal d=true)(h:Den (tyOf PP) I α (.sl kn t l .non) y):Den (tyOf PP) I α (.sl true t l' .non) y:=by
 have h:=h.vv
 have hl:l'.length=l.length:=by have:=congrArg List.length e;simpa [vvL_map]using this
 rw [D.vv,← e]at h
 have hv:(vvL l').length=l'.length:=by rw [vvL_map,List.length_map]
 generalize hL:vvL l'=L at h hv
 cases h with
 | sl hc hk hm =>
  rw [hv]
  rw [hv]at hc
  refine .sl hc trivial fun hn=>?_
  have hm:=hm (fun q=>hn (by rw [q]at hv;exact List.eq_nil_of_length_eq_zero hv.symm))
  cases hm with
  | mem g ht he hI hd =>
   rw [hv]at hI
   refine .mem g ht (fun d hd=>el_sc (hs d hd) (he _ (by rw [← hL,vvL_map];exact List.mem_map_of_mem hd))) hI fun i j d e h1 h2=>?_
   have h3:L[i]?=some d.vv:=by rw [← hL,vvL_map,List.getElem?_map,h1];rfl
   have h4:=hs d (List.mem_of_getElem? h1)
   have h5:e=d∧j=0:=by
    cases d<;>first|(cases h4;done)|(match j,h2 with
     | 0,h2=>exact⟨(Option.some.inj h2).symm,rfl⟩
     | j+1,h2=>simp [D.cells]at h2)
   obtain⟨rfl,rfl⟩:=h5
   exact den_sc h4 (hd i 0 _ _ h3 (by cases e<;>first|(cases h4;done)|rfl))
theorem call_sk{f:FuncId}{t:TypeId}{l l':List D}{h h':Heap}{r:Rs}(e:vvL l'=vvL l)(hs:∀ d∈l',scal d=true)(hc:CallSd PP f [.sl true t l' .non] h r h'):CallSd PP f [sl t l] h r h' :=
 CallSd.sub (a:=[.sl true t l' .non]) rfl (fun j d x g1 g2=>by
  intro I α y hd
  match j,g1,g2 with
  | 0,g1,g2 =>
   obtain rfl:=Option.some.inj g1
   obtain rfl:=Option.some.inj g2
   exact den_sk e hs hd
  | j+1,g1,g2=>simp at g1) hc
inductive RecN:List Int→Prop where
 | lease {a b c:Int} (ha:0≤a∧a<8192) (hb:0≤b∧b<8192) (hc:0≤c∧c<8192):RecN [1,a,b,c]
 | call {a b:Int} (ha:0≤a∧a<8192) (hb:0≤b∧b<8192):RecN [2,a,b]
theorem rec_ok{l:List Int}(hl:RecN l)(h:Heap):CallSd PP 32 [sl 3 (l.map iv)] h (.ret (sl 5 (eL l))) h:=by
 cases hl with
 | @lease a b c ha hb hc=>exact call_sk (l':=[ik 1,iv a,iv b,iv c]) rfl (by intro d hd;simp at hd;rcases hd with rfl|rfl|rfl|rfl<;>rfl) (rec4_ok _ _ _ ha hb hc h)
 | @call a b ha hb=>exact call_sk (l':=[ik 2,iv a,iv b]) rfl (by intro d hd;simp at hd;rcases hd with rfl|rfl|rfl<;>rfl) (rec3_ok _ _ ha hb h)
def conRec:Con PP:=⟨32,[.one (.sl 3)],.one (.one (.sl 5)),fun args d=>∃ l,RecN l∧args=[sl 3 (l.map iv)]∧d=sl 5 (eL l),fun args d ⟨l,h1,ha,hd⟩ h=>by subst ha;subst hd;exact rec_ok h1 h⟩
end Z
namespace Z
section
variable {P:Program}{E:LId→LSt→M Rd1}{Γ:Cn}{w0:World}{ms:Ms}{h h':Heap}{α α':Al}{I I':Gh}{W W':World}
theorem rep_fit{d e:D}{t:TypeId}{r:Reg}(hf:Fit (tyOf P) d e)(hr:Rep P (tyOf P) I α W r (.arr true t 1 [d])):Rep P (tyOf P) I α W r (.arr true t 1 [e]):=by
 obtain⟨hv,hw,hlw,ty,c,tt,h1,h2,h3,h4,h5,h6,h7,h8⟩:=hr
 obtain⟨f1,f2,f3⟩:=hf
 refine⟨hv,hw,hlw,ty,c,tt,h1,h2,h3,h4,h5,fun x hx=>?_,(fun h=>nomatch h),fun i x hx=>?_,fun i j x y hx hy=>?_⟩
 ·obtain rfl:=List.mem_singleton.1 hx
  exact f1 ty (h6 d (List.mem_singleton.2 rfl))
 ·match i,hx with
  | 0,hx =>
   obtain rfl:=Option.some.inj hx
   exact f2.symm.trans (h8.1 0 d rfl)
  | i+1,hx=>simp at hx
 match i,hx with
 | 0,hx =>
  obtain rfl:=Option.some.inj hx
  obtain⟨d',q1,q2,q3⟩:=f3 j y hy
  obtain⟨z,q4,q5,q6⟩:=h8.2 0 j d d' rfl q1
  exact⟨z,q4,q2 q5,q3 q6⟩
 | i+1,hx=>simp at hx
theorem fit_vv{d:D}:Fit (tyOf P) d d.vv:=by
 refine⟨fun ty h=>?_,by rw [vv_cells,List.length_map],fun j e' h=>?_⟩
 ·unfold SzOk at h ⊢
  split at h
  ·obtain⟨l,rfl,hl⟩:=h
   exact⟨vvL l,rfl,by rw [vvL_map,List.length_map];exact hl⟩
  refine⟨fun l hl=>?_,h.2⟩
  cases d<;>first|exact absurd rfl (h.1 _)|cases hl
 rw [vv_cells,List.getElem?_map]at h
 obtain⟨e0,h1,rfl⟩:=Option.map_eq_some_iff.1 h
 exact⟨e0,h1,fun h=>h.vv,fun h=>(vv_one e0).trans h⟩
theorem at_hp1{f n m:Nat}{b:Blk}(hn:n<f):at_ (hpOf f [n] [b]) m=if m=n then b else .non:=by
 unfold hpOf at_
 simp only [List.getD_eq_getElem?_getD,List.getElem?_map]
 by_cases hm:m<f
 ·rw [List.getElem?_range hm]
  by_cases hmn:m=n
  ·subst hmn;simp
  rw [if_neg hmn]
  have hnm:¬ n=m:=fun h=>hmn h.symm
  simp [List.idxOf?,List.findIdx?_cons,hnm]
 rw [List.getElem?_eq_none (by simpa using hm),if_neg (by omega)];rfl
theorem CallSd.trim{f:FuncId}{args:List D}{r r':Rs}{H h1:Heap}{n f0:Nat}{t:TypeId}{c c':D}(hc:CallSd P f args H r h1)(hH:∀ m,m≠n→at_ H m=.non)(hb:at_ h1 n=.arr true t 1 [c])(hcc:∀ {I α W rg},Rep P (tyOf P) I α W rg (.arr true t 1 [c])→Rep P (tyOf P) I α W rg (.arr true t 1 [c']))(hk:nmK (fun m=>m == n) (.arr true t 1 [c'])=true)(hφ:∀ {I α e},EndR P I α r e→EndR P I α r' e)
 (hr:(match r' with|.ret d=>nmB (fun m=>m == n) 8 d|.pan d=>nmB (fun m=>m == n) 8 d)=true) (hn:n<f0):CallSd P f args H r' (hpOf f0 [n] [.arr true t 1 [c']]):=fun w0 ms α I W xs hi hl hx =>
 (hc w0 ms α I W xs hi hl hx).mono fun e W' hh=>by
  obtain⟨α',I',q1,q2,q3,q4⟩:=hh
  obtain⟨rg,g1,g2,g3⟩:=q3.liv n (by rw [hb];rfl)
  rw [hb]at g3
  have hrep:=hcc g3
  obtain⟨hv,hw,hlw,ty,cs,tt,k1,k2,k3,k4,k5,k6⟩:=g3
  have hi2:=HInv.reput (B:=.arr true t 1 [c']) q3 g1 hv (by rw [hb];rfl) ⟨rfl,rfl,rfl,Nat.le_refl _,fun _ _ _=>rfl⟩ k5 (fun h=>nomatch h) (fun _ h=>nomatch h) hrep
  refine⟨α'.on (fun m=>m == n),I',fun m rg hm=>?_,q2,hi2.onp (fun m=>?_) (fun m hp=>?_),?_⟩
  ·by_cases hmn:m=n
   ·exact Al.on_at (by simpa using hmn) (q1 m rg hm)
   exact absurd (hH m hmn) (hi.dom m rg hm)
  ·rw [at_hp1 hn,at_put]
   by_cases hmn:m=n
   ·simp [hmn]
   simp [hmn]
  ·have hp:m=n:=by simpa using hp
   rw [at_put,if_pos hp];exact hk
  have q5:=hφ q4
  cases r' with
  | ret d=>cases e<;>first|exact Den.nm (d:=d) q5 8 hr|exact q5.elim
  | pan d=>cases e<;>first|exact q5.elim|(obtain⟨v,j1,j2⟩:=q5;exact⟨v,j1,j2.nm 8 hr⟩)
theorem CallSd.move{f:FuncId}{a:List D}{d c c':D}{n0 n f0:Nat}{t:TypeId}(hc:CallSd P f (.p n0 0 0::a) (hpOf f0 [n0] [.arr true t 1 [c]]) (.ret d) (hpOf f0 [n0] [.arr true t 1 [c']]))(hn0:n0<f0)(hn:n<h.length)(ho:∀ m,m≠n→at_ h m=.non)(hB:at_ h n=.arr true t 1 [c])(hk:nmK (fun _=>false) (.arr true t 1 [c])=true)(hk':nmK (fun _=>false) (.arr true t 1 [c'])=true)(ha:∀ d∈a,nmB (fun _=>false) 8 d=true)(hd:nmB (fun _=>false) 8 d=true):CallSd P f (.p n 0 0::a) h (.ret d) (hpOf h.length [n] [.arr true t 1 [c']]):=by
 intro w0 ms α I W xs hi hl hx
 obtain⟨r,g1,g2,g3⟩:=hi.liv n (by rw [hB];rfl)
 rw [hB]at g3
 have hnon:∀ (β γ:Al),LeA (β.on fun _=>false) γ:=fun β γ m q hm=>by unfold Al.on at hm;simp at hm
 have hi2:HInv P (tyOf P) w0 ms (hpOf f0 [n0] [.arr true t 1 [c]]) (fun m=>if m=n0 then some r else none) I W:=by
  refine⟨hi.old,fun m r' hm=>?_,fun m hm=>?_,fun m q r1 r2 hmq h1 h2=>?_,hi.gh,hi.g0⟩
  ·rw [at_hp1 hn0]
   by_cases hmn:m=n0
   ·rw [if_pos hmn];exact fun h=>nomatch h
   simp [hmn]at hm
  ·rw [at_hp1 hn0]at hm ⊢
   by_cases hmn:m=n0
   ·refine⟨r,if_pos hmn,fun hv=>(g2 hv).imp id fun h=>⟨h.1,fun t h=>?_⟩,?_⟩
    ·rw [if_pos hmn]at h;cases h
    rw [if_pos hmn]
    exact(g3.nmk hk).keep (.refl I) (hnon _ _) (fun _=>rfl) fun _ o h=>h
   rw [if_neg hmn]at hm;cases hm
  rw [at_hp1 hn0]at h1 h2
  by_cases hmn:m=n0
  ·by_cases hqn:q=n0
   ·exact absurd (hmn.trans hqn.symm) hmq
   rw [if_neg hqn]at h2;cases h2
  rw [if_neg hmn]at h1;cases h1
 refine(hc w0 ms _ I W xs hi2 (by simpa using hl) fun j d x q1 q2=>?_).mono fun e W' hh=>?_
 ·cases j with
  | zero =>
   obtain rfl:=Option.some.inj q1
   have hx0:=hx 0 _ x rfl q2
   cases hx0 with
   | p hr =>
    rw [g1]at hr;obtain rfl:=Option.some.inj hr
    exact .p (if_pos rfl)
  | succ j =>
   have q1':a[j]?=some d:=by simpa using q1
   exact((hx (j+1) d x (by simpa using q1') q2).nm 8 (ha d (List.mem_of_getElem? q1'))).mono (.refl _) (hnon _ _)
 obtain⟨α',I',q1,q2,q3,q4⟩:=hh
 have hr':=q1 n0 r (if_pos rfl)
 obtain⟨r2,k1,k2,k3⟩:=q3.liv n0 (by rw [at_hp1 hn0,if_pos rfl];rfl)
 rw [hr']at k1;obtain rfl:=Option.some.inj k1
 rw [at_hp1 hn0,if_pos rfl]at k3
 refine⟨α,I',.refl _,q2,⟨q3.old,fun m r' hm=>?_,fun m hm=>?_,fun m q r1 r2 hmq h1 h2=>?_,q3.gh,q3.g0⟩,?_⟩
 ·rw [at_hp1 hn]
  by_cases hmn:m=n
  ·rw [if_pos hmn];exact fun h=>nomatch h
  exact absurd (ho m hmn) (hi.dom m r' hm)
 ·rw [at_hp1 hn]at hm ⊢
  by_cases hmn:m=n
  ·rw [if_pos hmn]
   refine⟨r,by rw [hmn];exact g1,fun hv=>(k2 hv).imp id fun h=>⟨h.1,fun t h=>nomatch h⟩,(k3.nmk hk').keep (.refl I') (hnon _ _) (fun _=>rfl) fun _ o h=>h⟩
  rw [if_neg hmn]at hm;cases hm
 ·rw [at_hp1 hn]at h1 h2
  by_cases hmn:m=n
  ·by_cases hqn:q=n
   ·exact absurd (hmn.trans hqn.symm) hmq
   rw [if_neg hqn]at h2;cases h2
  rw [if_neg hmn]at h1;cases h1
 cases e<;>first|exact(Den.nm (d:=d) q4 8 hd).mono (.refl _) (hnon _ _)|exact q4.elim
structure ConB(P:Program) where
 f:FuncId
 n:Nat
 f0:Nat
 t:TypeId
 k:SK0
 ash:List SK0
 sh:RS
 ro:Bool
 rel:List D→D→D→D→Prop
 ok:∀ args c d c',rel args c d c'→CallSd P f (.p n 0 0::args) (hpOf f0 [n] [.arr true t 1 [c]]) (.ret (etaR sh d)) (hpOf f0 [n] [.arr true t 1 [etaK0 k c']])
 lt:n<f0
 rd:ro=true→∀ args c d c',rel args c d c'→c'=c
structure CRowB where
 f:FuncId
 n:Nat
 t:TypeId
 k:SK0
 ash:List SK0
 sh:RS
 ro:Bool
def ConB.row{P:Program}(c:ConB P):CRowB:=⟨c.f,c.n,c.t,c.k,c.ash,c.sh,c.ro⟩
def isH1(n:Nat)(h:Heap):Bool:=decide (n<h.length) && (List.range h.length).all fun m=>m == n || isNon (at_ h m)
def kpL:List D→List D→List D
 | .k v::l,_::m=>.k v::kpL l m
 | _::l,e::m=>e::kpL l m
 | _,m=>m
def kpK:D→D→D
 | .agg l,.agg m=>.agg (kpL l m)
 | _,e=>e
def nmN(d:D):Bool:=nmB (fun _=>false) 8 d
def consB(P:Program)(l:List CRowB)(base:Caller):Caller:=fun f args h=>match l.find? (fun c=>c.f == f)with
 | some c=>(match args with
  | .p n 0 0::ar=>if isH1 n h=true then(match at_ h n with
   | .arr true t 1 [d]=>if t=c.t then(match canK0 c.k d,canL canK0 c.ash (ar.map D.vk)with
    | some d1,some a=>.call f (.p c.n 0 0::a) [(c.t,d1)] fun r o=>if(a.all nmN && nmK (fun _=>false) (.arr true c.t 1 [d1]) && nmN (etaR c.sh r) && nmK (fun _=>false) (.arr true c.t 1 [etaK0 c.k (o.getD 0 .any)]))=true then .pure (.ret (etaR c.sh r),hpOf h.length [n] [.arr true c.t 1 [if c.ro=true then kpK d d1 else etaK0 c.k (o.getD 0 .any)]])else .bad 226
    | _,_=>.bad 221)else .bad 222
   | _=>.bad 223)else .bad 224
  | _=>.bad 225)
 | none=>base f args h
def consΓB{P:Program}(l:List (ConB P))(Γ0:Cn):Cn:=fun f args ins out=>(ins=[]∧Γ0 f args [] out)∨∃ c,l.find? (fun c=>c.f == f)=some c∧∃ a d r d',args=.p c.n 0 0::a∧ins=[(c.t,d)]∧c.rel a d r d'∧out=.ret r [d']
theorem find_mapB{l:List (ConB P)}{f:FuncId}:((l.map ConB.row).find? fun c=>c.f == f)=(l.find? fun c=>c.f == f).map ConB.row:=by
 induction l with
 | nil=>rfl
 | cons c l ih =>
  simp only [List.map_cons,List.find?_cons,ih]
  show(match c.f == f with|true=>some c.row|false=>_)=_
  cases c.f == f<;>rfl
theorem is_h1{n:Nat}{h:Heap}(hh:isH1 n h=true):∀ m,m≠n→at_ h m=.non:=fun m hm=>by
 obtain⟨_,h2⟩:=(Bool.and_eq_true _ _).mp hh
 by_cases hl:m<h.length
 ·have:=List.all_eq_true.1 h2 m (by simpa using hl)
  have hmn:(m == n)=false:=by simpa using hm
  rw [hmn,Bool.false_or]at this
  revert this
  cases at_ h m<;>intro h<;>first|rfl|cases h
 simp [at_,List.getD_eq_getElem?_getD,List.getElem?_eq_none (show h.length≤m by omega)]
theorem CallSd.pre{f:FuncId}{args:List D}{r:Rs}{h1:Heap}{n:Nat}{t:TypeId}{c c':D}(hc:CallSd P f args (hpOf h.length [n] [.arr true t 1 [c']]) r h1)(hh:isH1 n h=true)(hb:at_ h n=.arr true t 1 [c])(hcc:∀ {I α W rg},Rep P (tyOf P) I α W rg (.arr true t 1 [c])→Rep P (tyOf P) I α W rg (.arr true t 1 [c'])):CallSd P f args h r h1:=fun w0 ms α I W xs hi hl hx=>by
 obtain⟨rg,g1,g2,g3⟩:=hi.liv n (by rw [hb];rfl)
 rw [hb]at g3
 have hrep:=hcc g3
 obtain⟨hv,hw,hlw,ty,cs,tt,k1,k2,k3,k4,k5,k6⟩:=g3
 have hi2:=HInv.reput (B:=.arr true t 1 [c']) hi g1 hv (by rw [hb];rfl) ⟨rfl,rfl,rfl,Nat.le_refl _,fun _ _ _=>rfl⟩ k5 (fun h=>nomatch h) (fun _ h=>nomatch h) hrep
 have hn:n<h.length:=of_decide_eq_true ((Bool.and_eq_true _ _).mp hh).1
 have e:put h n (.arr true t 1 [c'])=hpOf h.length [n] [.arr true t 1 [c']]:=by
  have hl2:(hpOf h.length [n] [.arr true t 1 [c']]).length=h.length:=by unfold hpOf;rw [List.length_map,List.length_range]
  refine List.ext_getElem (by rw [put_len,hl2];omega) fun m h3 h4=>?_
  have q:∀ {l:Heap} {m:Nat} (h:m<l.length),l[m]=at_ l m:=fun h=>by simp [at_,List.getD_eq_getElem?_getD,List.getElem?_eq_getElem h]
  rw [q,q,at_put,at_hp1 hn]
  split
  ·rfl
  rename_i hmn;exact is_h1 hh m hmn
 rw [e]at hi2
 exact hc w0 ms α I W xs hi2 hl hx
theorem CallSd.post{f:FuncId}{args:List D}{r:Rs}{n f0:Nat}{t:TypeId}{c c':D}(hc:CallSd P f args h r (hpOf f0 [n] [.arr true t 1 [c]]))(hn:n<f0)(hcc:∀ {I α W rg},Rep P (tyOf P) I α W rg (.arr true t 1 [c])→Rep P (tyOf P) I α W rg (.arr true t 1 [c'])):CallSd P f args h r (hpOf f0 [n] [.arr true t 1 [c']]):=fun w0 ms α I W xs hi hl hx =>
 (hc w0 ms α I W xs hi hl hx).mono fun e W' hh=>by
  obtain⟨α',I',q1,q2,q3,q4⟩:=hh
  refine⟨α',I',q1,q2,⟨q3.old,fun m r hm=>?_,fun m hm=>?_,fun m q r1 r2 hmq h1 h2=>?_,q3.gh,q3.g0⟩,q4⟩
  ·have:=q3.dom m r hm
   rw [at_hp1 hn]at this ⊢
   split
   ·exact fun h=>nomatch h
   rename_i hmn;rw [if_neg hmn]at this;exact absurd rfl this
  ·rw [at_hp1 hn]at hm ⊢
   by_cases hmn:m=n
   ·obtain⟨r,k1,k2,k3⟩:=q3.liv m (by rw [at_hp1 hn,if_pos hmn];rfl)
    rw [at_hp1 hn,if_pos hmn]at k2 k3
    rw [if_pos hmn]
    exact⟨r,k1,fun hv=>(k2 hv).imp id fun h=>⟨h.1,fun t h=>nomatch h⟩,hcc k3⟩
   rw [if_neg hmn]at hm;cases hm
  rw [at_hp1 hn]at h1 h2
  by_cases hmn:m=n
  ·by_cases hqn:q=n
   ·exact absurd (hmn.trans hqn.symm) hmq
   rw [if_neg hqn]at h2;cases h2
  rw [if_neg hmn]at h1;cases h1
theorem canC_k{c:CK}{v:Value}{e:D}(h:canC c (.k v)=some e):e.one=true∧(∀ l,e≠.agg l)∧∀ {T I α x},Den T I α e x→Den T I α (.k v) x:=by
 cases c with
 | o=>cases h;exact⟨rfl,nofun,fun h=>h⟩
 | sl t=>cases h
 | i k =>
  cases v with
  | int k' x =>
   have h:(if k'=k then some (D.v (.int k x))else none)=some e:=h
   split at h
   ·rename_i hk
    subst hk
    cases h
    exact⟨rfl,nofun,fun h=>by cases h with|v h=>exact .k h⟩
   cases h
  | _=>cases h
 | b =>
  cases v with
  | bool x=>cases h;exact⟨rfl,nofun,fun h=>by cases h with|v h=>exact .k h⟩
  | _=>cases h
 | s =>
  cases v with
  | string x=>cases h;exact⟨rfl,nofun,fun h=>by cases h with|v h=>exact .k h⟩
  | _=>cases h
theorem kpL_get:∀ {cs:List CK}{l m:List D},canCL cs l=some m→(kpL l m).length=m.length∧∀ (j:Nat) e',(kpL l m)[j]?=some e'→∃ e,m[j]?=some e∧(∀ {T I α x},Den T I α e x→Den T I α e' x)∧(e.one=true→e'.one=true)
 | [],[],m,h=>by cases h;exact⟨rfl,fun j e h=>by simp [kpL]at h⟩
 | [],_::_,m,h=>nomatch h
 | _::_,[],m,h=>nomatch h
 | c::r,d::l,m,h=>by
  unfold canCL at h
  split at h
  ·rename_i e m' h1 h2
   cases h
   obtain⟨h3,h4⟩:=kpL_get h2
   have key:∃ x,kpL (d::l) (e::m')=x::kpL l m'∧(∀ {T I α y},Den T I α e y→Den T I α x y)∧(e.one=true→x.one=true):=by
    cases d with
    | k v =>
     obtain⟨_,_,q3⟩:=canC_k h1
     exact⟨_,rfl,fun h=>q3 h,fun _=>rfl⟩
    | _=>exact⟨_,rfl,fun h=>h,fun h=>h⟩
   obtain⟨x,k1,k2,k3⟩:=key
   rw [k1]
   refine⟨by simp [h3],fun j e' hj=>?_⟩
   cases j with
   | zero =>
    obtain rfl:x=e':=by simpa using hj
    exact⟨e,rfl,k2,k3⟩
   | succ j=>exact h4 j e' (by simpa using hj)
  cases h
theorem kpK_fit{k:SK0}{d d1:D}(h:canK0 k d=some d1):Fit (tyOf P) d1 (kpK d d1):=by
 unfold kpK
 split
 ·rename_i l m
  cases k with
  | one c =>
   have h:canC c (.agg l)=some (.agg m):=h
   unfold canC at h
   split at h
   all_goals first|(rename_i hq;cases hq;done)|skip
   all_goals cases h
   rename_i hq
   have:kpL l l=l:=by
    clear h hq
    induction l with
    | nil=>rfl
    | cons d l ih=>cases d<;>(show _::kpL l l=_;rw [ih])
   rw [this]
   exact .refl
  | row cs =>
   have h:(match canCL cs l with|some m=>some (D.agg m)|none=>none)=some (.agg m):=h
   split at h
   ·rename_i m' h1
    cases h
    obtain⟨h2,h3⟩:=kpL_get h1
    refine⟨fun ty hs=>?_,by show m.length=(kpL l m).length;rw [h2],fun j e' hj=>?_⟩
    ·unfold SzOk at hs ⊢
     split at hs
     ·obtain⟨q,hq,hl⟩:=hs
      cases hq
      exact⟨_,rfl,by rw [h2];exact hl⟩
     exact absurd rfl (hs.1 _)
    obtain⟨e,q1,q2,q3⟩:=h3 j e' hj
    exact⟨e,q1,fun h=>q2 h,q3⟩
   cases h
  | imm cs=>cases h
 exact .refl
theorem consB_ok{l:List (Con P)}{m:List CRow}{lb:List (ConB P)}{mb:List CRowB}(hl:m=l.map Con.row)(hlb:mb=lb.map ConB.row):CallOk P E (consΓB lb (consΓ l)) (consB P mb (cons P m)):=by
 intro g args h r h' he
 unfold consB at he
 rw [hlb,find_mapB]at he
 cases hf:lb.find? fun c=>c.f == g with
 | none =>
  rw [hf]at he
  dsimp only [Option.map_none]at he
  unfold cons at he
  rw [hl,find_map]at he
  cases hf2:l.find? fun c=>c.f == g with
  | none=>rw [hf2]at he;cases he
  | some c =>
   rw [hf2]at he
   dsimp only [Option.map_some]at he
   split at he
   ·rename_i a ha
    cases he with
    | call h1 h2 =>
     have:=ev_pure_eq h2
     cases this
     rcases h1 with ⟨_,h1⟩|⟨c',h3,_⟩
     ·obtain⟨c',h3,d,h4,h5⟩:=h1
      rw [hf2]at h3;obtain rfl:=Option.some.inj h3
      cases h5
      have hg:c.f=g:=by simpa using List.find?_some hf2
      subst hg
      exact(c.ok a _ h4 h).can ha
     rw [hf]at h3;cases h3
   cases he
 | some c =>
  rw [hf]at he
  dsimp only [Option.map_some]at he
  split at he
  ·rename_i n ar
   split at he
   ·rename_i hh
    split at he
    ·rename_i t d hat
     split at he
     ·rename_i ht
      split at he
      ·rename_i d1 a h3 h4
       cases he with
       | call h1 h2 =>
        dsimp only at h2
        split at h2
        ·rename_i hnm
         have:=ev_pure_eq h2
         cases this
         simp only [Bool.and_eq_true]at hnm
         obtain⟨⟨⟨n1,n2⟩,n3⟩,n4⟩:=hnm
         rcases h1 with ⟨h1,_⟩|⟨c',h5,a',dd,rr,d',h6,h7,h8,h9⟩
         ·cases h1
         rw [hf]at h5;obtain rfl:=Option.some.inj h5
         injection h9 with e1 e2
         subst e1 e2
         rename_i rr
         cases h6
         have h7:d1=dd:=(Prod.mk.inj (List.head_eq_of_cons_eq h7)).2
         subst h7
         have hg:c.f=g:=by simpa using List.find?_some hf
         subst hg
         have h10:=c.ok _ _ _ _ h8
         have ht:t=c.t:=ht
         subst ht
         have hn:n<h.length:=of_decide_eq_true ((Bool.and_eq_true _ _).mp hh).1
         have hlen:(hpOf h.length [n] [Blk.arr true c.t 1 [d1]]).length=h.length:=by unfold hpOf;rw [List.length_map,List.length_range]
         have h11:=CallSd.move (h:=hpOf h.length [n] [.arr true c.t 1 [d1]]) (n:=n) h10 c.lt (by rw [hlen];exact hn) (fun m hm=>by rw [at_hp1 hn,if_neg hm]) (by rw [at_hp1 hn,if_pos rfl]) n2 n4 (fun d hd=>List.all_eq_true.1 n1 d hd) n3
         rw [hlen]at h11
         have h12:CallSd P c.f (.p n 0 0::ar) h (.ret (etaR c.sh rr)) (hpOf h.length [n] [.arr true c.t 1 [etaK0 c.k d']]):=by
          refine CallSd.pre (c:=d) (CallSd.sub (a:=.p n 0 0::a) ?_ ?_ h11) hh hat fun hr=>rep_fit (canK0_fit h3) hr
          ·obtain⟨g1,_⟩:=canL_get h4
           rw [List.length_map]at g1
           simp [g1]
          intro j x y q1 q2 I α z hz
          cases j with
          | zero =>
           obtain rfl:=Option.some.inj q1
           obtain rfl:=Option.some.inj q2
           exact hz
          | succ j =>
           obtain⟨_,g2⟩:=canL_get h4
           obtain⟨k,d0,k3,k4⟩:=g2 j y (by simpa using q2)
           rw [List.getElem?_map]at k3
           obtain⟨d1',k5,rfl⟩:=Option.map_eq_some_iff.1 k3
           have q1:ar[j]?=some x:=by simpa using q1
           rw [q1]at k5
           obtain rfl:=Option.some.inj k5
           exact canK0_ok k4 hz.vk
         show CallSd P c.f _ h _ (hpOf h.length [n] [.arr true c.t 1 [if c.ro=true then kpK d d1 else etaK0 c.k d']])
         by_cases hro:c.ro=true
         ·rw [if_pos hro]
          have:=c.rd hro _ _ _ _ h8
          rw [this,show etaK0 c.k d1=d1 from etaK0_can h3]at h12
          exact h12.post hn fun hr=>rep_fit (kpK_fit h3) hr
         rw [if_neg hro];exact h12
        cases h2
      cases he
     cases he
    cases he
   cases he
  cases he
end
section
variable {E:LId→LSt→M Rd1}{Γ:Cn}{C:Cf}{l:List FuncId}{f:FuncId}{args:List D}{d cell c':D}{n f0:Nat}{t:TypeId}
noncomputable def callRB(C:Cf)(l:List FuncId)(f:FuncId)(args:List D)(n f0:Nat)(t:TypeId)(cell:D):M (Rs×Blk):=(callT PP C l yh0 f (.p n 0 0::args) (hpOf f0 [n] [.arr true t 1 [cell]])).bind fun q=>.pure (q.1,at_ q.2 n)
def ResB(sh:RS)(k:SK0)(t:TypeId)(d c':D)(q:Rs×Blk):Prop:=∃ d0 d1 c0 c1,q=(.ret d0,.arr true t 1 [c0])∧canR sh d0=some d1∧d1.vv=d∧canK0 k c0=some c1∧c1.vv=c'
theorem con_ofB(k:SK0)(sh:RS)(hbase:CallOk PP E Γ C.base)(hN:NamedT E PP C l yh0)(hn:n<f0)(hd:nmB (fun m=>m == n) 8 d=true)(hk:nmK (fun m=>m == n) (.arr true t 1 [c'])=true)(h:To E Γ (callRB C l f args n f0 t cell) (ResB sh k t d c')):CallSd PP f (.p n 0 0::args) (hpOf f0 [n] [.arr true t 1 [cell]]) (.ret d) (hpOf f0 [n] [.arr true t 1 [c']]):=by
 obtain⟨r,h1,d0,d1,c0,c1,rfl,hc,rfl,hc2,rfl⟩:=h
 obtain⟨⟨q,h2⟩,h3,h4⟩:=ev_bind h1
 have h5:=ev_pure_eq h4
 obtain⟨rfl,h6⟩:=Prod.mk.inj h5
 have h7:CallSd PP f (.p n 0 0::args) (hpOf f0 [n] [.arr true t 1 [cell]]) (.ret d0) h2:=callT_ok (P:=PP) follows_mixed hbase l yh0 yh0_ok hN f _ _ _ h2 h3
 refine h7.trim (fun m hm=>by rw [at_hp1 hn,if_neg hm]) h6.symm (fun hr=>rep_fit fit_vv (rep_fit (canK0_fit hc2) hr)) hk (fun {I α e} he=>?_) hd hn
 cases e<;>first|exact(canR_ok hc he).vv|exact he.elim
end
end Z
namespace Z
section
variable {P:Program}{E:LId→LSt→M Rd1}{Γ:Cn}{w0:World}{ms:Ms}{h h':Heap}{α α':Al}{I I':Gh}{W W':World}
end
end Z
namespace Z
noncomputable def cNil:Cf:=cf [] [] []
def gSu1:LCfg:=⟨28,4,4,⟨[(3,.el (.one (.i .u32))),(6,.el (.one (.sl 5))),(7,sI),(8,sI)],[]⟩,[(.exit 0,⟨[(3,.el (.one (.i .u32)))],[]⟩)]⟩
def gSu2:LCfg:=⟨28,4,4,⟨[(3,.el (.one (.i .u32))),(6,.el (.one (.sl 5))),(7,sI),(8,sI),(16,sI)],[]⟩,[(.exit 2,⟨[(3,.el (.one (.i .u32))),(6,.el (.one (.sl 5))),(7,sI),(8,sI)],[]⟩)]⟩
noncomputable def cSum:Cf:=cf [] [⟨92,0,3,(92,0),gSu1⟩,⟨92,0,7,(92,1),gSu2⟩] []
noncomputable def eSum:LId→LSt→M Rd1:=fun id L=>if id=(92,0)then gSu1.round PP (kitF PP cSum (callT PP cSum []) yh0 92) (lcode 92 0) L else gSu2.round PP (kitF PP cSum (callT PP cSum []) yh0 92) (lcode 92 1) L
theorem t_eq(a b:List D):callR cNil [67] 67 [sl 5 a,sl 5 b]=(M.pure (Rs.ret (bv (decide (strOfNums (List.map D.int a)=strOfNums (List.map D.int b)))))):=by kernel_rfl
theorem t_get(a b c d:Int):callR cNil [65] 65 [.sl true 5 [u8 a,u8 b,u8 c,u8 d] .non]=(M.pure (Rs.ret (D.v (Value.int IntKind.u64 (IntKind.wrap IntKind.u64 (nI (BitVec.toNat (BitVec.ofInt 64 (IntKind.wrap IntKind.u64 (IntKind.wrap IntKind.u64 (nI (BitVec.toNat (BitVec.ofInt 64 (IntKind.wrap IntKind.u64 (IntKind.wrap IntKind.u64 (nI (BitVec.toNat (BitVec.ofInt 64 (IntKind.wrap IntKind.u64 (IntKind.wrap IntKind.u64 (nI (BitVec.toNat (BitVec.ofInt 64 (IntKind.wrap IntKind.u64 ((0:Int)*(2:Int) ^ 8))|||BitVec.ofInt 64 (IntKind.wrap IntKind.u64 a))))*(2:Int) ^ 8))|||BitVec.ofInt 64 (IntKind.wrap IntKind.u64 b))))*(2:Int) ^ 8))|||BitVec.ofInt 64 (IntKind.wrap IntKind.u64 c))))*(2:Int) ^ 8))|||BitVec.ofInt 64 (IntKind.wrap IntKind.u64 d))))))))):=by kernel_rfl
theorem t_sum(l:List D):callR cSum [92] 92 [sl 5 l]=(M.loop (92,0) (ls [D.v (Value.int IntKind.u32 (4294967295:Int)),sl 5 l,iv (nI (List.length l)),iv (0:Int)] []) (fun L0=>M.pure (Rs.ret (D.v (Value.int IntKind.u32 (IntKind.wrap IntKind.u32 (nI (BitVec.toNat (BitVec.ofInt 32 (if false=true then(-1:Int)else if false=true then(2:Int) ^ 31-(1:Int)else(2:Int) ^ 32-(1:Int))^^^BitVec.ofInt 32 (D.int (vd L0 0)))))))))) (fun L0=>M.bad 154) fun L0=>M.bad 154):=by kernel_rfl
theorem rd_su1(l:List D)(n m i:Int):eSum (92,0) ⟨[.v (.int .u32 n),sl 5 l,iv m,iv i],[],[]⟩=(M.br (decide (i<m)) (M.get l i fun d0=>M.loop (92,1) (ls [D.v (Value.int IntKind.u32 (IntKind.wrap IntKind.u32 (nI (BitVec.toNat (BitVec.ofInt 32 n^^^BitVec.ofInt 32 (IntKind.wrap IntKind.u32 (D.int d0))))))),sl 5 l,iv m,iv i,iv (0:Int)] []) (fun L1=>M.pure (none,(ls [D.v (Value.int IntKind.u32 (D.int (vd L1 0))),sl 5 (D.items (vd L1 1)),iv (D.int (vd L1 2)),iv (w64 (D.int (vd L1 3)+(1:Int)))] []))) (fun L1=>M.bad 154) fun L1=>M.bad 154) (M.pure (some 0,(ls [D.v (Value.int IntKind.u32 n)] [])))):=by kernel_rfl
theorem rd_su2(l:List D)(n m i j:Int):eSum (92,1) ⟨[.v (.int .u32 n),sl 5 l,iv m,iv i,iv j],[],[]⟩=(M.br (decide (j<(8:Int))) (M.pure (none,(ls [D.v (Value.int IntKind.u32 (IntKind.wrap IntKind.u32 (nI (BitVec.toNat (BitVec.ofInt 32 (Int.fdiv n ((2:Int) ^ 1))^^^BitVec.ofInt 32 (IntKind.wrap IntKind.u32 ((3988292384:Int)*IntKind.wrap IntKind.u32 (nI (BitVec.toNat (BitVec.ofInt 32 n&&&BitVec.ofInt 32 (1:Int))))))))))),sl 5 l,iv m,iv i,iv (w64 (j+(1:Int)))] []))) (M.pure (some 0,(ls [D.v (Value.int IntKind.u32 n),sl 5 l,iv m,iv i] [])))):=by kernel_rfl
def By(l:List D):Prop:=∀ d∈l,∃ n:Nat,n<256∧d=u8 n
def put4(g:Nat):List D:=[u8 ((g / 16777216 % 256:Nat):Int),u8 ((g / 65536 % 256:Nat):Int),u8 ((g / 256 % 256:Nat):Int),u8 ((g % 256:Nat):Int)]
theorem w64u{n:Nat}(h:n<18446744073709551616):IntKind.wrap .u64 (n:Int)=(n:Int):=wrap_u64 (by omega) (by omega)
theorem or_add{x y:Nat}(hy:y<256)(hx:x<16777216):IntKind.wrap .u64 (nI (BitVec.ofInt 64 (IntKind.wrap .u64 ((x:Int)*(2:Int) ^ 8))|||BitVec.ofInt 64 (IntKind.wrap .u64 (y:Int))).toNat)=((x*256+y:Nat):Int):=by
 rw [show(x:Int)*(2:Int) ^ 8=((x*256:Nat):Int) by omega,w64u (n:=x*256) (by omega),w64u (n:=y) (by omega),BitVec.ofInt_natCast,BitVec.ofInt_natCast]
 simp only [BitVec.toNat_or,BitVec.toNat_ofNat]
 rw [Nat.mod_eq_of_lt (by omega),Nat.mod_eq_of_lt (by omega)]
 have:=Nat.two_pow_add_eq_or_of_lt (i:=8) (b:=y) (by omega) x
 rw [show 2 ^ 8*x=x*256 by omega]at this
 rw [← this]
 exact w64u (by omega)
theorem get_ok(g:Nat)(hg:g<4294967296)(h:Heap):CallSd PP 65 [sl 5 (put4 g)] h (.ret (.v (.int .u64 g))) h:=by
 refine CallSd.sub (a:=[.sl true 5 (put4 g) .non]) rfl (fun j d e g1 g2=>?_) (con_of (E:=E0) (Γ:=consΓ (P:=PP) []) (C:=cNil) (l:=[65]) (.one (.one (.i .u64))) (cons_ok rfl) (named_none (by kernel_rfl) (by kernel_rfl) (fun c s=>rfl) (NamedT.nil (P:=PP))) rfl rfl rfl (to_wp ?_) h)
 ·intro I α x hd
  match j,g1,g2 with
  | 0,g1,g2=>cases g1;cases g2;exact den_kn hd
  | j+1,g1,g2=>simp at g1
 unfold put4
 rw [t_get]
 refine⟨_,_,rfl,rfl,?_⟩
 rw [show(0:Int)=((0:Nat):Int) from rfl,or_add (by omega) (by omega),or_add (by omega) (by omega),or_add (by omega) (by omega),or_add (by omega) (by omega)]
 show D.v (.int .u64 _)=_
 rw [show((0*256+g / 16777216 % 256)*256+g / 65536 % 256)*256+g / 256 % 256=g / 256 by omega,show g / 256*256+g % 256=g by omega]
def conGet:Con PP:=⟨65,[.one (.sl 5)],.one (.one (.i .u64)),fun args d=>∃ g:Nat,g<4294967296∧args=[sl 5 (put4 g)]∧d=.v (.int .u64 g),fun args d ⟨g,hg,ha,hd⟩ h=>by subst ha;subst hd;exact get_ok g hg h⟩
def cr1(n:Int):Int:=IntKind.wrap .u32 (nI (BitVec.ofInt 32 (Int.fdiv n ((2:Int) ^ 1))^^^BitVec.ofInt 32 (IntKind.wrap .u32 ((3988292384:Int)*IntKind.wrap .u32 (nI (BitVec.ofInt 32 n&&&BitVec.ofInt 32 (1:Int)).toNat)))).toNat)
def crN:Nat→Int→Int
 | 0,n=>n
 | k+1,n=>cr1 (crN k n)
def crB(n:Int)(d:D):Int:=crN 8 (IntKind.wrap .u32 (nI (BitVec.ofInt 32 n^^^BitVec.ofInt 32 (IntKind.wrap .u32 (D.int d))).toNat))
def crc(l:List D):Int:=IntKind.wrap .u32 (nI (BitVec.ofInt 32 4294967295^^^BitVec.ofInt 32 (l.foldl crB 4294967295)).toNat)
theorem su2_lp{Γ:Cn}(l:List D)(n m i:Int):∃ j L,Lp eSum Γ (92,1) ⟨[.v (.int .u32 n),sl 5 l,iv m,iv i,iv (((0:Nat)):Int)],[],[]⟩ j L∧j=0∧L=⟨[.v (.int .u32 (crN 8 n)),sl 5 l,iv m,iv i],[],[]⟩:=by
 refine lp_up (σ:=Unit) (fun k _=>⟨[.v (.int .u32 (crN k n)),sl 5 l,iv m,iv i,iv ((k:Nat):Int)],[],[]⟩) 8 (fun _ _=>True) _ (fun k _ hk _=>?_) (fun _ _=>?_) (s:=()) trivial
 ·rw [rd_su2]
  refine⟨fun _=>.inl ⟨(),?_,trivial⟩,fun h=>absurd (of_decide_eq_false h) (by omega)⟩
  rw [w64_id (by omega) (by omega)]
  rfl
 rw [rd_su2]
 exact⟨fun h=>absurd (of_decide_eq_true h) (by decide),fun _=>⟨0,_,rfl,rfl,rfl⟩⟩
theorem su1_lp{Γ:Cn}(l:List D)(hl:l.length<1000000):∃ j L,Lp eSum Γ (92,0) ⟨[.v (.int .u32 4294967295),sl 5 l,iv l.length,iv (((0:Nat)):Int)],[],[]⟩ j L∧j=0∧L=⟨[.v (.int .u32 (l.foldl crB 4294967295))],[],[]⟩:=by
 refine lp_up (σ:=Unit) (fun k _=>⟨[.v (.int .u32 ((l.take k).foldl crB 4294967295)),sl 5 l,iv l.length,iv ((k:Nat):Int)],[],[]⟩) l.length (fun _ _=>True) _ (fun k _ hk _=>?_) (fun _ _=>?_) (s:=()) trivial
 ·rw [rd_su1]
  have hx:=List.getElem?_eq_getElem hk
  generalize l[k]=x at hx
  obtain⟨_,_,g1,rfl,rfl⟩:=su2_lp (Γ:=Γ) l (IntKind.wrap .u32 (nI (BitVec.ofInt 32 ((l.take k).foldl crB 4294967295)^^^BitVec.ofInt 32 (IntKind.wrap .u32 (D.int x))).toNat)) l.length ((k:Nat):Int)
  refine⟨fun _=>⟨by omega,x,(by rw [Int.toNat_natCast];exact hx),.inl ⟨⟨[.v (.int .u32 (crB ((l.take k).foldl crB 4294967295) x)),sl 5 l,iv l.length,iv ((k:Nat):Int)],[],[]⟩,g1,.inl ⟨(),?_,trivial⟩⟩⟩,fun h=>absurd (of_decide_eq_false h) (by omega)⟩
  obtain⟨h1,h2⟩:=List.getElem?_eq_some_iff.1 hx
  rw [List.take_succ_eq_append_getElem h1,h2,List.foldl_append]
  show(none,LSt.mk [_,_,_,iv (w64 (((k:Nat):Int)+1))] _ _)=_
  rw [w64_id (by omega) (by omega)]
  rfl
 rw [rd_su1]
 refine⟨fun h=>absurd (of_decide_eq_true h) (by omega),fun _=>⟨0,_,rfl,rfl,?_⟩⟩
 rw [List.take_length]
theorem sum_ok(l:List D)(hl:l.length<1000000)(h:Heap):CallSd PP 92 [sl 5 l] h (.ret (.v (.int .u32 (crc l)))) h:=by
 refine con_of (E:=eSum) (Γ:=consΓ (P:=PP) []) (C:=cSum) (l:=[92]) (.one (.one (.i .u32))) (cons_ok rfl) (named_loops [lcode 92 0,lcode 92 1] (by kernel_rfl) (by kernel_rfl) (by kernel_rfl) (fun c hc s id g h L=>?_) (NamedT.nil (P:=PP))) rfl rfl rfl (to_wp ?_) h
 ·rcases List.mem_cons.1 hc with hc|hc
  ·have e:cSum.find 92 yh0.tag (lcode 92 0) s=some ((92,0),gSu1):=by kernel_rfl
   rw [hc]at h ⊢
   rw [e]at h
   have h:=Prod.mk.inj (Option.some.inj h)
   rw [← h.1,← h.2];rfl
  have e:cSum.find 92 yh0.tag (lcode 92 1) s=some ((92,1),gSu2):=by kernel_rfl
  rw [List.mem_singleton.1 hc]at h ⊢
  rw [e]at h
  have h:=Prod.mk.inj (Option.some.inj h)
  rw [← h.1,← h.2];rfl
 rw [t_sum]
 obtain⟨_,_,g1,rfl,rfl⟩:=su1_lp (Γ:=consΓ (P:=PP) []) l hl
 exact .inl ⟨_,g1,_,_,rfl,rfl,rfl⟩
def conSum:Con PP:=⟨92,[.one (.sl 5)],.one (.one (.i .u32)),fun args d=>∃ l:List D,l.length<1000000∧args=[sl 5 l]∧d=.v (.int .u32 (crc l)),fun args d ⟨l,hl,ha,hd⟩ h=>by subst ha;subst hd;exact sum_ok l hl h⟩
theorem by_inj{a b:List D}(ha:By a)(hb:By b)(h:strOfNums (a.map D.int)=strOfNums (b.map D.int)):a=b:=by
 have h2:=congrArg (fun s:ByteArray=>s.data.toList) h
 simp only [strOfNums_data,List.map_map]at h2
 induction a generalizing b with
 | nil =>
  cases b with
  | nil=>rfl
  | cons y b=>simp at h2
 | cons x a ih =>
  cases b with
  | nil=>simp at h2
  | cons y b =>
   simp only [List.map_cons,List.cons.injEq]at h2
   obtain⟨n,hn,rfl⟩:=ha x (List.mem_cons_self ..)
   obtain⟨m,hm,rfl⟩:=hb y (List.mem_cons_self ..)
   have h3:UInt8.ofNat n=UInt8.ofNat m:=by
    have:UInt8.ofNat ((n:Int)).toNat=UInt8.ofNat ((m:Int)).toNat:=h2.1
    simpa using this
   have h4:=congrArg UInt8.toNat h3
   simp only [UInt8.toNat_ofNat']at h4
   obtain rfl:n=m:=by omega
   have hab:a=b:=by
    refine ih (fun d hd=>ha d (List.mem_cons_of_mem _ hd)) (fun d hd=>hb d (List.mem_cons_of_mem _ hd)) ?_ h2.2
    unfold strOfNums
    simp only [List.map_map]
    exact congrArg (fun l:List UInt8=>(⟨l.toArray⟩:ByteArray)) h2.2
   rw [hab]
open Classical in
noncomputable def eqLs(a b:List D):Bool:=decide (a=b)
theorem eq_ok(a b:List D)(ha:By a)(hb:By b)(h:Heap):CallSd PP 67 [sl 5 a,sl 5 b] h (.ret (bv (eqLs a b))) h:=by
 refine con_of (E:=E0) (Γ:=consΓ (P:=PP) []) (C:=cNil) (l:=[67]) (.one (.one .b)) (cons_ok rfl) (named_plain (by kernel_rfl) (NamedT.nil (P:=PP))) rfl rfl rfl (to_wp ?_) h
 rw [t_eq]
 refine⟨_,_,rfl,rfl,?_⟩
 show D.v (.bool (decide (strOfNums (List.map D.int a)=strOfNums (List.map D.int b))))=_
 have e:decide (strOfNums (List.map D.int a)=strOfNums (List.map D.int b))=eqLs a b:=by
  classical
  unfold eqLs
  by_cases hab:a=b
  ·rw [decide_eq_true (show strOfNums (List.map D.int a)=strOfNums (List.map D.int b) by rw [hab])];exact(decide_eq_true hab).symm
  rw [decide_eq_false fun h=>hab (by_inj ha hb h)];exact(decide_eq_false hab).symm
 rw [e]
def conEq:Con PP:=⟨67,[.one (.sl 5),.one (.sl 5)],.one (.one .b),fun args d=>∃ a b,By a∧By b∧args=[sl 5 a,sl 5 b]∧d=bv (eqLs a b),fun args d ⟨a,b,h1,h2,ha,hd⟩ h=>by subst ha;subst hd;exact eq_ok a b h1 h2 h⟩
end Z
end Go.Proofs.YtmgcclhbbhbmcaaGreat
