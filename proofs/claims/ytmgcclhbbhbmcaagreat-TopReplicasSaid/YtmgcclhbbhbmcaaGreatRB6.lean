/-
  The statement 'TopReplicas': for every input the law returns true, and each argument reads as it read before. No condition.
-/
import Derived.Test.YtmgcclhbbhbmcaaGreatRB5
import Derived.Test.YtmgcclhbbhbmcaaGreatRB4
import Derived.Test.YtmgcclhbbhbmcaaGreatRB1
import Derived.DataElems
set_option linter.unusedSimpArgs false
set_option linter.unusedVariables false
namespace Go.Proofs.YtmgcclhbbhbmcaaGreat
open Go Go.RowKit
namespace Z
structure SI(s:Sg)(E0 E1:List En)(K:Nat):Prop where
 vp:VP s.p E0 E1
 g0:∃ gs,DSd s.d0 gs K∧gs.map (·.2)=recsE (E0.take s.p.s0.toNat)
 g1:∃ gs,DSd s.d1 gs K∧gs.map (·.2)=recsE (E1.take s.p.s1.toNat)
 l0:E0.length≤64
 l1:E1.length≤64
 k:K<4294967290
inductive StepR (s:Sg) (E0 E1:List En) (K:Nat):Sg→Prop where
 | deed (k u a b:Int) (h:¬ (u=0∨u=1)∨(k≠4∧k≠7)):StepR s E0 E1 K { s with p:=if(doP s.p E0 E1 k u a b).2=0 then(doP s.p E0 E1 k u a b).1 else s.p }
 | cut0 (n:Nat) (d':Di) (gs':List (Nat×List D)) (h1:s.p.s0≤n) (h2:n≤E0.length) (hd:DSd d' gs' (K+1)) (hg:gs'.map (·.2)=recsE (E0.take n)):StepR s E0 E1 K { s with p:=crashP0 s.p E0 n,d0:=d' }
 | cut1 (n:Nat) (d':Di) (gs':List (Nat×List D)) (h1:s.p.s1≤n) (h2:n≤E1.length) (hd:DSd d' gs' (K+1)) (hg:gs'.map (·.2)=recsE (E1.take n)):StepR s E0 E1 K { s with p:=crashP1 s.p E1 n,d1:=d' }
theorem st_den(k u:Int)(x y z:D):∀ (j:Nat) d e,(D.p 0 0 0::[dSt5 (iv k) (iv u) x y z])[j]?=some d→(D.p 0 0 0::[dSt5 (ik k) (ik u) x y z])[j]?=some e→∀ {I:Gh}{α:Al}{v:Value},Den (tyOf PP) I α d v→Den (tyOf PP) I α e v:=fun j d e h1 h2 {I α v} hd=>by
 match j,h1,h2 with
 | 0,h1,h2=>cases h1;cases h2;exact hd
 | 1,h1,h2 =>
  obtain rfl:dSt5 (iv k) (iv u) x y z=d:=Option.some.inj h1
  obtain rfl:dSt5 (ik k) (ik u) x y z=e:=Option.some.inj h2
  cases hd with
  | agg hl hd =>
   refine .agg hl fun j d v k1 k2=>?_
   match j,k1 with
   | 0,k1=>obtain rfl:=Option.some.inj k1;exact den_k (hd 0 _ v rfl k2)
   | 1,k1=>obtain rfl:=Option.some.inj k1;exact den_k (hd 1 _ v rfl k2)
   | 2,k1=>obtain rfl:=Option.some.inj k1;exact hd 2 _ v rfl k2
   | 3,k1=>obtain rfl:=Option.some.inj k1;exact hd 3 _ v rfl k2
   | 4,k1=>obtain rfl:=Option.some.inj k1;exact hd 4 _ v rfl k2
   | j+5,k1=>simp at k1
 | j+2,h1,h2=>simp at h1
theorem gs_len{E:List En}{gs:List (Nat×List D)}{n:Nat}(h:gs.map (·.2)=recsE (E.take n))(hn:n≤E.length):gs.length=n:=by
 have:=congrArg List.length h
 rw [List.length_map,recs_len,List.length_take]at this
 omega
theorem res_sg{s:Sg}{c0:D}(h:c0=dSg s)(h0:VvD s.d0)(h1:VvD s.d1):ResB (.one kB) kSg 45 (bv true) (dSg s) (.ret (bk true),.arr true 45 1 [c0]):=by
 subst h
 exact⟨_,_,_,_,rfl,rfl,rfl,rfl,vv_sg h0 h1⟩
abbrev StOk (s s':Sg) (k u a b w:Int):Prop:=CallSd PP 9 (.p 0 0 0::[dSt5 (iv k) (iv u) (iv a) (iv b) (u8 w)]) (hpOf 1 [0] [.arr true 45 1 [dSg s]]) (.ret (bv true)) (hpOf 1 [0] [.arr true 45 1 [dSg s']])
theorem named_sp:NamedT Z.E0 PP cSp [9] yh0:=named_plain (by kernel_rfl) (NamedT.nil (P:=PP))
theorem sp7_ok0(s:Sg)(E0 E1:List En)(K:Nat)(hs:SI s E0 E1 K)(a b w:Int):∃ s',StepR s E0 E1 K s'∧StOk s s' 7 0 a b w:=by
 obtain⟨gs,hd,hg⟩:=hs.g0
 obtain⟨gs1,hd1,_⟩:=hs.g1
 have hy:=hs.vp.y0
 refine⟨_,.cut0 s.p.s0.toNat s.d0 gs (by omega) (by omega) ⟨hd.pe,hd.ds.mono (Nat.le_succ _)⟩ hg,?_⟩
 refine CallSd.sub (a:=.p 0 0 0::[dSt5 (ik 7) (ik 0) (iv a) (iv b) (u8 w)]) rfl (st_den 7 0 _ _ _) (con_ofB (E:=Z.E0) (Γ:=gSp) (C:=cSp) (l:=[9]) kSg (.one kB) bSp_ok named_sp (by decide) rfl rfl (to_wp ?_))
 rw [t_sp07]
 refine⟨.tup [sl 57 ((recsE E0).map dSe),iv 0],[],.inl ⟨rfl,conRcs,rfl,_,⟨0,E0,hs.vp.v0,?_,by rw [rcs_recs]⟩,rfl⟩,(fun q=>nomatch q),fun _=>?_⟩
 ·show [dRp s.p.r0]=_
  rw [hs.vp.e0]
 exact sp_core0 s E0 E1 hs.vp s.p.s0.toNat (by omega) (by omega) gs K hd hg none (fun h=>nomatch h) _ (res_sg rfl (by first|exact hd.vv|exact hd1.vv) (by first|exact hd1.vv|exact hd.vv))
theorem sp4_ok0(s:Sg)(E0 E1:List En)(K:Nat)(hs:SI s E0 E1 K)(a b w:Int)(h0:0≤w)(h1:w≤255):∃ s',StepR s E0 E1 K s'∧StOk s s' 4 0 a b w:=by
 obtain⟨gs,hd,hg⟩:=hs.g0
 obtain⟨gs1,hd1,_⟩:=hs.g1
 have hy:=hs.vp.y0
 have hgl:=gs_len hg (by omega)
 have hle:=hs.l0
 obtain⟨d',n,gs',g1,g2,g3,g4,g5,hcall⟩:=wr_ex 0 (by decide) s (recsE E0) (if w=255 then -1 else w) gs K hd (by first|exact hd.vv|exact hd1.vv) (by first|exact hd1.vv|exact hd.vv) (by rw [hg,recs_take,hgl]) (by rw [recs_len];omega) (by rw [recs_len];omega) (recs_by hs.vp.v0) hs.k (by split<;>omega) (by split<;>omega)
 rw [recs_len]at g2 g3
 rw [show s.setD 0 d'={ s with d0:=d' } from rfl]at hcall
 have g5:gs'.map (·.2)=recsE (E0.take n):=by rw [g5,recs_take]
 refine⟨_,.cut0 n d' gs' (by omega) g2 g4 g5,?_⟩
 refine CallSd.sub (a:=.p 0 0 0::[dSt5 (ik 4) (ik 0) (iv a) (iv b) (u8 w)]) rfl (st_den 4 0 _ _ _) (con_ofB (E:=Z.E0) (Γ:=gSp) (C:=cSp) (l:=[9]) kSg (.one kB) bSp_ok named_sp (by decide) rfl rfl (to_wp ?_))
 rw [t_sp04]
 have hcore:∀ Q:Rs×Blk→Prop,Q (.ret (bk true),.arr true 45 1 [dSg { s with p:=crashP0 s.p E0 n,d0:=d' }])→Wp Z.E0 gSp (spT 0 0 (some w) (dSg { s with d0:=d' }) (.tup [sl 57 ((recsE E0).map dSe),iv 0])) Q:=fun Q hQ =>
  sp_core0 { s with d0:=d' } E0 E1 hs.vp n (by show s.p.s0≤_;omega) g2 gs' (K+1) g4 g5 (some w) (fun h=>g3 (by rw [if_pos (Option.some.inj h)])) Q hQ
 have hres:=res_sg (s:={ s with p:=crashP0 s.p E0 n,d0:=d' }) rfl (by first|exact g4.vv|exact hd1.vv) (by first|exact hd1.vv|exact g4.vv)
 refine⟨.tup [sl 57 ((recsE E0).map dSe),iv 0],[],.inl ⟨rfl,conRcs,rfl,_,⟨0,E0,hs.vp.v0,?_,by rw [rcs_recs]⟩,rfl⟩,(fun q=>nomatch q),fun _=>⟨fun q=>?_,fun q=>?_⟩⟩
 ·show [dRp s.p.r0]=_
  rw [hs.vp.e0]
 ·have q:w=255:=by simpa using q
  rw [if_pos q]at hcall
  exact⟨bv true,[dSg { s with d0:=d' }],.inr ⟨conWr,rfl,_,dSg s,bv true,dSg { s with d0:=d' },rfl,rfl,hcall,rfl⟩,(fun q=>nomatch q),fun _=>hcore _ hres⟩
 have q:¬ w=255:=by simpa using q
 rw [if_neg q]at hcall
 rw [w64_id (by omega) (by omega)]
 exact⟨bv true,[dSg { s with d0:=d' }],.inr ⟨conWr,rfl,_,dSg s,bv true,dSg { s with d0:=d' },rfl,rfl,hcall,rfl⟩,(fun q=>nomatch q),fun _=>hcore _ hres⟩
theorem sp7_ok1(s:Sg)(E0 E1:List En)(K:Nat)(hs:SI s E0 E1 K)(a b w:Int):∃ s',StepR s E0 E1 K s'∧StOk s s' 7 1 a b w:=by
 obtain⟨gs,hd,hg⟩:=hs.g1
 obtain⟨gs1,hd1,_⟩:=hs.g0
 have hy:=hs.vp.y1
 refine⟨_,.cut1 s.p.s1.toNat s.d1 gs (by omega) (by omega) ⟨hd.pe,hd.ds.mono (Nat.le_succ _)⟩ hg,?_⟩
 refine CallSd.sub (a:=.p 0 0 0::[dSt5 (ik 7) (ik 1) (iv a) (iv b) (u8 w)]) rfl (st_den 7 1 _ _ _) (con_ofB (E:=Z.E0) (Γ:=gSp) (C:=cSp) (l:=[9]) kSg (.one kB) bSp_ok named_sp (by decide) rfl rfl (to_wp ?_))
 rw [t_sp17]
 refine⟨.tup [sl 57 ((recsE E1).map dSe),iv 0],[],.inl ⟨rfl,conRcs,rfl,_,⟨1,E1,hs.vp.v1,?_,by rw [rcs_recs]⟩,rfl⟩,(fun q=>nomatch q),fun _=>?_⟩
 ·show [dRp s.p.r1]=_
  rw [hs.vp.e1]
 exact sp_core1 s E0 E1 hs.vp s.p.s1.toNat (by omega) (by omega) gs K hd hg none (fun h=>nomatch h) _ (res_sg rfl (by first|exact hd.vv|exact hd1.vv) (by first|exact hd1.vv|exact hd.vv))
theorem sp4_ok1(s:Sg)(E0 E1:List En)(K:Nat)(hs:SI s E0 E1 K)(a b w:Int)(h0:0≤w)(h1:w≤255):∃ s',StepR s E0 E1 K s'∧StOk s s' 4 1 a b w:=by
 obtain⟨gs,hd,hg⟩:=hs.g1
 obtain⟨gs1,hd1,_⟩:=hs.g0
 have hy:=hs.vp.y1
 have hgl:=gs_len hg (by omega)
 have hle:=hs.l1
 obtain⟨d',n,gs',g1,g2,g3,g4,g5,hcall⟩:=wr_ex 1 (by decide) s (recsE E1) (if w=255 then -1 else w) gs K hd (by first|exact hd.vv|exact hd1.vv) (by first|exact hd1.vv|exact hd.vv) (by rw [hg,recs_take,hgl]) (by rw [recs_len];omega) (by rw [recs_len];omega) (recs_by hs.vp.v1) hs.k (by split<;>omega) (by split<;>omega)
 rw [recs_len]at g2 g3
 rw [show s.setD 1 d'={ s with d1:=d' } from rfl]at hcall
 have g5:gs'.map (·.2)=recsE (E1.take n):=by rw [g5,recs_take]
 refine⟨_,.cut1 n d' gs' (by omega) g2 g4 g5,?_⟩
 refine CallSd.sub (a:=.p 0 0 0::[dSt5 (ik 4) (ik 1) (iv a) (iv b) (u8 w)]) rfl (st_den 4 1 _ _ _) (con_ofB (E:=Z.E0) (Γ:=gSp) (C:=cSp) (l:=[9]) kSg (.one kB) bSp_ok named_sp (by decide) rfl rfl (to_wp ?_))
 rw [t_sp14]
 have hcore:∀ Q:Rs×Blk→Prop,Q (.ret (bk true),.arr true 45 1 [dSg { s with p:=crashP1 s.p E1 n,d1:=d' }])→Wp Z.E0 gSp (spT 1 1 (some w) (dSg { s with d1:=d' }) (.tup [sl 57 ((recsE E1).map dSe),iv 0])) Q:=fun Q hQ =>
  sp_core1 { s with d1:=d' } E0 E1 hs.vp n (by show s.p.s1≤_;omega) g2 gs' (K+1) g4 g5 (some w) (fun h=>g3 (by rw [if_pos (Option.some.inj h)])) Q hQ
 have hres:=res_sg (s:={ s with p:=crashP1 s.p E1 n,d1:=d' }) rfl (by first|exact g4.vv|exact hd1.vv) (by first|exact hd1.vv|exact g4.vv)
 refine⟨.tup [sl 57 ((recsE E1).map dSe),iv 0],[],.inl ⟨rfl,conRcs,rfl,_,⟨1,E1,hs.vp.v1,?_,by rw [rcs_recs]⟩,rfl⟩,(fun q=>nomatch q),fun _=>⟨fun q=>?_,fun q=>?_⟩⟩
 ·show [dRp s.p.r1]=_
  rw [hs.vp.e1]
 ·have q:w=255:=by simpa using q
  rw [if_pos q]at hcall
  exact⟨bv true,[dSg { s with d1:=d' }],.inr ⟨conWr,rfl,_,dSg s,bv true,dSg { s with d1:=d' },rfl,rfl,hcall,rfl⟩,(fun q=>nomatch q),fun _=>hcore _ hres⟩
 have q:¬ w=255:=by simpa using q
 rw [if_neg q]at hcall
 rw [w64_id (by omega) (by omega)]
 exact⟨bv true,[dSg { s with d1:=d' }],.inr ⟨conWr,rfl,_,dSg s,bv true,dSg { s with d1:=d' },rfl,rfl,hcall,rfl⟩,(fun q=>nomatch q),fun _=>hcore _ hres⟩
theorem spd_ok(s:Sg)(E0 E1:List En)(K:Nat)(hs:SI s E0 E1 K)(k u a b w:Int)(h:¬ (u=0∨u=1)∨(k≠4∧k≠7)):∃ s',StepR s E0 E1 K s'∧StOk s s' k u a b w:=by
 obtain⟨gs,hd,hg⟩:=hs.g0
 obtain⟨gs1,hd1,_⟩:=hs.g1
 refine⟨_,.deed k u a b h,?_⟩
 refine con_ofB (E:=Z.E0) (Γ:=consΓ [conDo]) (C:=cSpD) (l:=[9]) kSg (.one kB) (show CallOk PP Z.E0 (consΓ [conDo]) (cons PP [⟨22,[kPq,kDd],.tup [kPq,kI]⟩]) from cons_ok rfl) (named_plain (by kernel_rfl) (NamedT.nil (P:=PP))) (by decide) rfl rfl (to_wp ?_)
 rw [t_spd]
 have hD:Wp Z.E0 (consΓ [conDo]) (spD s k u a b) (ResB (.one kB) kSg 45 (bv true) (dSg { s with p:=if(doP s.p E0 E1 k u a b).2=0 then(doP s.p E0 E1 k u a b).1 else s.p })):=by
  refine⟨.tup [dPq (doP s.p E0 E1 k u a b).1,iv (doP s.p E0 E1 k u a b).2],[],⟨conDo,rfl,_,⟨s.p,E0,E1,k,u,a,b,hs.vp,rfl,rfl⟩,rfl⟩,fun q=>?_,fun q=>?_⟩
  ·have q:((doP s.p E0 E1 k u a b).2 == 0)=true:=q
   rw [if_pos (by simpa using q)]
   exact res_sg (s:={ s with p:=(doP s.p E0 E1 k u a b).1 }) rfl hd.vv hd1.vv
  have q:((doP s.p E0 E1 k u a b).2 == 0)=false:=q
  rw [if_neg (by simpa using q)]
  exact res_sg (s:=s) rfl hd.vv hd1.vv
 have hB:(u<0∨1<u)∨(k≠4∧k≠7):=h.imp (fun h=>by omega) id
 refine⟨fun _=>hD,fun q1=>⟨fun _=>hD,fun q2=>?_⟩⟩
 have q1:=of_decide_eq_false q1
 have q2:=of_decide_eq_false q2
 have hk:k≠4∧k≠7:=hB.resolve_left (by omega)
 refine⟨fun _=>⟨fun _=>hD,fun q=>?_⟩,fun q=>?_⟩
 ·have q:k=7:=by simpa using q
  exact absurd q hk.2
 have q:k=4:=by simpa using q
 exact absurd q hk.1
theorem st_ex(s:Sg)(E0 E1:List En)(K:Nat)(hs:SI s E0 E1 K)(k u a b w:Int)(h0:0≤w)(h1:w≤255):∃ s',StepR s E0 E1 K s'∧StOk s s' k u a b w:=by
 by_cases hB:¬ (u=0∨u=1)∨(k≠4∧k≠7)
 ·exact spd_ok s E0 E1 K hs k u a b w hB
 have hu:u=0∨u=1:=Classical.byContradiction fun h=>hB (.inl h)
 have hk:k=4∨k=7:=Classical.byContradiction fun h=>hB (.inr ⟨fun e=>h (.inl e),fun e=>h (.inr e)⟩)
 rcases hu with rfl|rfl<;>rcases hk with rfl|rfl
 ·exact sp4_ok0 s E0 E1 K hs a b w h0 h1
 ·exact sp7_ok0 s E0 E1 K hs a b w
 ·exact sp4_ok1 s E0 E1 K hs a b w h0 h1
 exact sp7_ok1 s E0 E1 K hs a b w
def conStep:ConB PP:=⟨9,0,1,45,kSg,[.row [.i .i64,.i .i64,.i .i64,.i .i64,.i .u8]],.one kB,false,fun args c d c'=>CallSd PP 9 (.p 0 0 0::args) (hpOf 1 [0] [.arr true 45 1 [c]]) (.ret (etaR (.one kB) d)) (hpOf 1 [0] [.arr true 45 1 [etaK0 kSg c']]),fun _ _ _ _ h=>h,by decide,fun h=>nomatch h⟩
end Z
namespace Z
theorem named_nv:NamedT eNv PP cNv [8] yh0:=by
 have key:∀ (c:Code) (k:Nat) (hk:lcode 8 k=c) (s:S) (id:LId) (g:LCfg) (L:LSt),True:=fun _ _ _ _ _ _ _=>trivial
 refine named_loops [lcode 8 0,lcode 8 1,lcode 8 2,lcode 8 3,lcode 8 4,lcode 8 5,lcode 8 6] (by kernel_rfl) (by kernel_rfl) (by kernel_rfl) (fun c hc s id g h L=>?_) (NamedT.nil (P:=PP))
 rcases List.mem_cons.1 hc with hc|hc
 ·have e:cNv.find 8 yh0.tag (lcode 8 0) s=none:=by kernel_rfl
  rw [hc]at h;cases e.symm.trans h
 rcases List.mem_cons.1 hc with hc|hc
 ·have e:cNv.find 8 yh0.tag (lcode 8 1) s=some ((8,1),gNv2):=by kernel_rfl
  rw [hc]at h ⊢
  have h:=Prod.mk.inj (Option.some.inj (e.symm.trans h))
  rw [← h.1,← h.2];rfl
 rcases List.mem_cons.1 hc with hc|hc
 ·have e:cNv.find 8 yh0.tag (lcode 8 2) s=none:=by kernel_rfl
  rw [hc]at h;cases e.symm.trans h
 rcases List.mem_cons.1 hc with hc|hc
 ·have e:cNv.find 8 yh0.tag (lcode 8 3) s=(match isZ (s.ts.getD 12 .any)with|true=>some ((8,2),gNv4 0)|false=>some ((8,3),gNv4 1)):=by kernel_rfl
  rw [hc]at h ⊢
  have h:=e.symm.trans h
  split at h
  ·have h:=Prod.mk.inj (Option.some.inj h)
   rw [← h.1,← h.2];rfl
  have h:=Prod.mk.inj (Option.some.inj h)
  rw [← h.1,← h.2];rfl
 rcases List.mem_cons.1 hc with hc|hc
 ·have e:cNv.find 8 yh0.tag (lcode 8 4) s=(match isZ (s.ts.getD 12 .any)with|true=>some ((8,4),gNv5 0)|false=>some ((8,5),gNv5 1)):=by kernel_rfl
  rw [hc]at h ⊢
  have h:=e.symm.trans h
  split at h
  ·have h:=Prod.mk.inj (Option.some.inj h)
   rw [← h.1,← h.2];rfl
  have h:=Prod.mk.inj (Option.some.inj h)
  rw [← h.1,← h.2];rfl
 rcases List.mem_cons.1 hc with hc|hc
 ·have e:cNv.find 8 yh0.tag (lcode 8 5) s=some ((8,6),gNv6):=by kernel_rfl
  rw [hc]at h ⊢
  have h:=Prod.mk.inj (Option.some.inj (e.symm.trans h))
  rw [← h.1,← h.2];rfl
 have e:cNv.find 8 yh0.tag (lcode 8 6) s=some ((8,7),gNv7):=by kernel_rfl
 rw [List.mem_singleton.1 hc]at h ⊢
 have h:=Prod.mk.inj (Option.some.inj (e.symm.trans h))
 rw [← h.1,← h.2];rfl
theorem syn_le{E:List En}{a:Int}{l:Le}(h:synB E a (hitL l)=true):l∈leE (E.take a.toNat):=by
 unfold synB at h
 obtain⟨x,h1,h2⟩:=List.any_eq_true.1 h
 unfold hitL at h2
 simp only [Bool.and_eq_true,decide_eq_true_eq]at h2
 exact List.mem_map.2 ⟨x,List.mem_filter.2 ⟨h1,h2.1⟩,h2.2⟩
theorem syn_ca{E:List En}{a:Int}{c:Ca}(h:synB E a (hitC c)=true):c∈caE (E.take a.toNat):=by
 unfold synB at h
 obtain⟨x,h1,h2⟩:=List.any_eq_true.1 h
 unfold hitC at h2
 simp only [Bool.and_eq_true,decide_eq_true_eq]at h2
 exact List.mem_map.2 ⟨x,List.mem_filter.2 ⟨h1,h2.1⟩,h2.2⟩
theorem nv_ok(s:Sg)(E0 E1:List En)(K:Nat)(hs:SI s E0 E1 K)(hc:∀ c∈s.p.k0++s.p.k1,∀ d∈s.p.k0++s.p.k1,c.bar=d.bar→c=d)(hn:∀ c∈s.p.r0.ca,∀ d∈s.p.r1.ca,c.bar≠d.bar):CallSd PP 8 (.p 0 0 0::[]) (hpOf 1 [0] [.arr true 45 1 [dSg s]]) (.ret (bv true)) (hpOf 1 [0] [.arr true 45 1 [dSg s]]):=by
 obtain⟨gs,hd,hg⟩:=hs.g0
 obtain⟨gs1,hd1,hg1⟩:=hs.g1
 have hvp:=hs.vp
 have y0:=hvp.y0
 have y1:=hvp.y1
 have l0:=hs.l0
 have l1:=hs.l1
 have hrd:recsD gs=(recsE (E0.take s.p.s0.toNat)).map dSe:=by rw [← hg,List.map_map];rfl
 have hrd1:recsD gs1=(recsE (E1.take s.p.s1.toNat)).map dSe:=by rw [← hg1,List.map_map];rfl
 have hvg:∀ x∈gs,x.2.map D.vv=x.2:=fun x hx=>by_vv (hd.ds.ok x hx).1.2.2.1
 have hvg1:∀ x∈gs1,x.2.map D.vv=x.2:=fun x hx=>by_vv (hd1.ds.ok x hx).1.2.2.1
 have v0:=ve_take hvp.v0 (n:=s.p.s0.toNat) (by omega)
 have v1:=ve_take hvp.v1 (n:=s.p.s1.toNat) (by omega)
 have hsm0:Sm (ofE 0 (E0.take s.p.s0.toNat)):=sm_of v0.sm
 have hsm1:Sm (ofE 1 (E1.take s.p.s1.toNat)):=sm_of v1.sm
 have hca0:s.p.r0.ca.length<100000:=by rw [hvp.e0];exact Nat.lt_of_le_of_lt (caE_len E0) hvp.v0.sm
 have hca1:s.p.r1.ca.length<100000:=by rw [hvp.e1];exact Nat.lt_of_le_of_lt (caE_len E1) hvp.v1.sm
 have k1:∀ x∈s.p.told,x∈(ofE 0 (E0.take s.p.s0.toNat)).le∨x∈(ofE 1 (E1.take s.p.s1.toNat)).le:=fun x hx=>(hvp.tl x hx).imp syn_le syn_le
 have g1:=nv1_lp s (ofE 0 (E0.take s.p.s0.toNat)) (ofE 1 (E1.take s.p.s1.toNat)) s.p.told hvp.zt (Nat.lt_of_le_of_lt (leE_len _) (Nat.lt_of_lt_of_le v0.sm (by decide))) (Nat.lt_of_le_of_lt (leE_len _) (Nat.lt_of_lt_of_le v1.sm (by decide))) k1
 have g2:=nv2_lp s (ofE 0 (E0.take s.p.s0.toNat)) (ofE 1 (E1.take s.p.s1.toNat)) [] s.p.k0 hvp.z0 (Nat.lt_of_le_of_lt (caE_len _) v0.sm) (fun c h=>syn_ca (hvp.k0 c h)) (fun c h d h'=>hc c (List.mem_append.2 (.inl h)) d (List.mem_append.2 (.inl h')))
 have g3:=nv3_lp s (ofE 0 (E0.take s.p.s0.toNat)) (ofE 1 (E1.take s.p.s1.toNat)) s.p.k0 s.p.k1 hvp.z1 (Nat.lt_of_le_of_lt (caE_len _) v1.sm) (fun c h=>syn_ca (hvp.k1 c h)) hc
 have g6:=nv6_lp s s.p.r0.ca hca0
 have g7:=nv7_lp s s.p.r0.ca s.p.r1.ca hca1 hn
 rw [List.nil_append]at g2
 refine con_ofB (E:=eNv) (Γ:=consΓ gNvC) (C:=cNv) (l:=[8]) kSg (.one kB) (show CallOk PP eNv (consΓ gNvC) (cons PP rwNv) from cons_ok rfl) named_nv (by decide) rfl rfl (to_wp ?_)
 rw [t_nv]
 refine⟨.tup [sl 57 ((recsE (E0.take s.p.s0.toNat)).map dSe),bv true],[],⟨conR3,rfl,_,⟨s.d0,gs,_,hd.dj,hd.vv,hvg,rfl,by rw [hrd]⟩,rfl⟩,.tup [dRp (ofE 0 (E0.take s.p.s0.toNat)),iv 0],[],⟨conLoa,rfl,_,⟨0,E0.take s.p.s0.toNat,v0,by rw [rcs_recs];rfl,rfl⟩,rfl⟩,(fun q=>nomatch q),fun _=>⟨(fun q=>nomatch q),fun _=>⟨.tup [sl 57 ((recsE (E1.take s.p.s1.toNat)).map dSe),bv true],[],⟨conR3,rfl,_,⟨s.d1,gs1,_,hd1.dj,hd1.vv,hvg1,rfl,by rw [hrd1]⟩,rfl⟩,.tup [dRp (ofE 1 (E1.take s.p.s1.toNat)),iv 0],[],⟨conLoa,rfl,_,⟨1,E1.take s.p.s1.toNat,v1,by rw [rcs_recs,w64_id (by decide) (by decide)];rfl,rfl⟩,rfl⟩,(fun q=>nomatch q),fun _=>⟨(fun q=>nomatch q),fun _=>?_⟩⟩⟩⟩
 refine .inl ⟨⟨[.p 0 0 0,.p 1 0 0],bNv s (ofE 0 (E0.take s.p.s0.toNat)) (ofE 1 (E1.take s.p.s1.toNat)),[]⟩,?_,.inl ⟨⟨[.p 0 0 0,.p 1 0 0,.mp 8,ik 0,ik 0],bNv s (ofE 0 (E0.take s.p.s0.toNat)) (ofE 1 (E1.take s.p.s1.toNat))++[.map false 80 (esC s.p.k0)],[]⟩,?_,.inl ⟨⟨[.p 0 0 0,.p 1 0 0,.mp 8,ik 1,ik 1],bNv s (ofE 0 (E0.take s.p.s0.toNat)) (ofE 1 (E1.take s.p.s1.toNat))++[.map false 80 (esC (s.p.k0++s.p.k1))],[]⟩,?_,.inl ⟨⟨[.p 0 0 0,.mp 9],[.arr true 45 1 [dSg s],.map false 82 (esB s.p.r0.ca)],[]⟩,?_,.inl ⟨⟨[],[.arr true 45 1 [dSg s],.map false 82 (esB s.p.r0.ca)],[]⟩,?_,?_⟩⟩⟩⟩⟩
 ·rw [show nI (s.p.told.map dLe).length=(s.p.told.length:Int) by rw [List.length_map]]
  exact g1
 ·show Lp eNv _ (8,2) ⟨pN4 0 (s.p.k0.map dCa) (nI (s.p.k0.map dCa).length) 0,bNv s (ofE 0 (E0.take s.p.s0.toNat)) (ofE 1 (E1.take s.p.s1.toNat))++[.map false 80 []],[]⟩ 0 _
  rw [show nI (s.p.k0.map dCa).length=(s.p.k0.length:Int) by rw [List.length_map]]
  exact g2
 ·show Lp eNv _ (8,3) ⟨pN4 1 (s.p.k1.map dCa) (nI (s.p.k1.map dCa).length) 0,bNv s (ofE 0 (E0.take s.p.s0.toNat)) (ofE 1 (E1.take s.p.s1.toNat))++[.map false 80 (esC s.p.k0)],[]⟩ 0 _
  rw [show nI (s.p.k1.map dCa).length=(s.p.k1.length:Int) by rw [List.length_map]]
  exact g3
 ·show Lp eNv _ (8,6) ⟨[.p 0 0 0,.mp 9,sl 66 (s.p.r0.ca.map dCa),iv (nI (s.p.r0.ca.map dCa).length),iv 0],[.arr true 45 1 [dSg s],.map false 82 []],[]⟩ 0 _
  rw [show nI (s.p.r0.ca.map dCa).length=(s.p.r0.ca.length:Int) by rw [List.length_map]]
  exact g6
 ·show Lp eNv _ (8,7) ⟨[.mp 9,sl 66 (s.p.r1.ca.map dCa),iv (nI (s.p.r1.ca.map dCa).length),iv 0],[.arr true 45 1 [dSg s],.map false 82 (esB s.p.r0.ca)],[]⟩ 0 _
  rw [show nI (s.p.r1.ca.map dCa).length=(s.p.r1.ca.length:Int) by rw [List.length_map]]
  exact g7
 exact res_sg (s:=s) rfl hd.vv hd1.vv
def conNev:ConB PP:=⟨8,0,1,45,kSg,[],.one kB,true,fun args c d c'=>CallSd PP 8 (.p 0 0 0::args) (hpOf 1 [0] [.arr true 45 1 [c]]) (.ret (etaR (.one kB) d)) (hpOf 1 [0] [.arr true 45 1 [etaK0 kSg c']])∧c'=c,fun _ _ _ _ h=>h.1,by decide,fun _ _ _ _ _ h=>h.2⟩
end Z
namespace Z
noncomputable def cNw:Cf:=cf [] [] []
def newD(n:Nat):Di:=⟨List.replicate n (List.replicate 128 (u8 0)),[],-1,false⟩
theorem t_nw1:callR cNw [5,11,25,53] 5 [ik ((1:Nat):Int)]=(M.pure (Rs.ret (D.tup [D.agg [D.sl true 57 (List.replicate 1 (sl 5 (List.take 128 (List.drop 0 (zr 128 z0))))) Tok.non,D.sl true 164 [] Tok.nil,ik (-1:Int),bk false],ik (0:Int)]))):=by kernel_rfl
theorem t_nw64:callR cNw [5,11,25,53] 5 [ik ((64:Nat):Int)]=(M.pure (Rs.ret (D.tup [D.agg [D.sl true 57 (List.replicate 64 (sl 5 (List.take 128 (List.drop 0 (zr 128 z0))))) Tok.non,D.sl true 164 [] Tok.nil,ik (-1:Int),bk false],ik (0:Int)]))):=by kernel_rfl
theorem named_nw:NamedT E0 PP cNw [5,11,25,53] yh0:=named_free (fun f t c s=>rfl) (List.all_eq_true.1 (by kernel_rfl:[5,11,25,53].all freeB=true))
theorem nw_res(n:Nat):Res (.tup [kDi,kI]) (.tup [dDi (newD n),iv 0]) (Rs.ret (D.tup [D.agg [D.sl true 57 (List.replicate n (sl 5 (List.take 128 (List.drop 0 (zr 128 z0))))) Tok.non,D.sl true 164 [] Tok.nil,ik (-1:Int),bk false],ik (0:Int)])):=by
 refine⟨_,_,rfl,rfl,?_⟩
 show D.tup [.agg [.sl false 57 (vvL (List.replicate n (sl 5 (List.take 128 (List.drop 0 (zr 128 z0)))))) .non,.sl false 164 [] .non,iv (-1),bv false],iv 0]=_
 rw [zr_eq,List.drop_zero,List.take_of_length_le (by simp),vvL_map,List.map_replicate]
 show D.tup [.agg [.sl false 57 (List.replicate n (D.sl false 5 (vvL (List.replicate 128 z0)) .non)) .non,.sl false 164 [] .non,iv (-1),bv false],iv 0]=_
 rw [vvL_map,List.map_replicate]
 unfold dDi newD
 rw [List.map_replicate]
 rfl
theorem den_kn1{I:Gh}{α:Al}{x v:Value}(h:Den (tyOf PP) I α (.v x) v):Den (tyOf PP) I α (.k x) v:=by
 cases h with|v h=>exact .k h
theorem nw_ok(n:Nat)(hn:n=1∨n=64)(h:Heap):CallSd PP 5 [iv n] h (.ret (.tup [dDi (newD n),iv 0])) h:=by
 refine CallSd.sub (a:=[ik n]) rfl (fun j d e g1 g2=>?_) (con_of (E:=E0) (Γ:=consΓ (P:=PP) []) (C:=cNw) (l:=[5,11,25,53]) (.tup [kDi,kI]) (cons_ok rfl) named_nw rfl ?_ ?_ (to_wp ?_) h)
 ·intro I α x hd
  match j,g1,g2 with
  | 0,g1,g2 =>
   obtain rfl:iv n=d:=Option.some.inj g1
   obtain rfl:ik n=e:=Option.some.inj g2
   exact den_kn1 hd
  | j+1,g1,g2=>simp at g1
 ·rfl
 ·rfl
 have e:callR cNw [5,11,25,53] 5 [ik n]=(M.pure (Rs.ret (D.tup [D.agg [D.sl true 57 (List.replicate n (sl 5 (List.take 128 (List.drop 0 (zr 128 z0))))) Tok.non,D.sl true 164 [] Tok.nil,ik (-1:Int),bk false],ik (0:Int)]))):=by
  rcases hn with hn|hn
  ·rw [hn];exact t_nw1
  rw [hn];exact t_nw64
 rw [e]
 exact nw_res n
def conNw:Con PP:=⟨5,[kI],.tup [kDi,kI],fun args d=>∃ n:Nat,(n=1∨n=64)∧args=[iv n]∧d=.tup [dDi (newD n),iv 0],fun args d ⟨n,hn,ha,hd⟩ h=>by subst ha;subst hd;exact nw_ok n hn h⟩
end Z
namespace Z
noncomputable def cSt:Cf:=cf [12] [] []
def rwBg:List CRow:=[⟨4,[kI,kI],.tup [kPq,kI]⟩,⟨5,[kI],.tup [kDi,kI]⟩,⟨17,[kRp],.tup [.one (.sl 57),kI]⟩]
noncomputable def bBg:Caller:=consB PP [⟨18,0,45,kSg,kWr,.one kB,false⟩] (cons PP rwBg)
noncomputable def cBg:Cf:={ cff (fun _=>12) [4,5,17] [] [18] [] []with base:=bBg }
theorem t_st(h u:Int):callR cSt [4,10,12] 4 [iv h,iv u]=(M.br (decide ((0:Int)≤h)) (M.br (!decide (h≤(1:Int))) (M.pure (Rs.ret (D.tup [D.agg [ik (0:Int),D.sl true 64 [] Tok.nil,D.sl true 66 [] Tok.nil,D.sl true 4 [] Tok.nil,ik (0:Int),D.sl true 64 [] Tok.nil,D.sl true 66 [] Tok.nil,D.sl true 4 [] Tok.nil,ik (0:Int),ik (0:Int),D.sl true 64 [] Tok.nil,D.sl true 66 [] Tok.nil,D.sl true 66 [] Tok.nil],ik (1:Int)]))) (M.br (decide ((1:Int)≤u)) (M.br (!decide (u≤(4096:Int))) (M.pure (Rs.ret (D.tup [D.agg [ik (0:Int),D.sl true 64 [] Tok.nil,D.sl true 66 [] Tok.nil,D.sl true 4 [] Tok.nil,ik (0:Int),D.sl true 64 [] Tok.nil,D.sl true 66 [] Tok.nil,D.sl true 4 [] Tok.nil,ik (0:Int),ik (0:Int),D.sl true 64 [] Tok.nil,D.sl true 66 [] Tok.nil,D.sl true 66 [] Tok.nil],ik (1:Int)]))) (M.br (decide ((0:Int)≤h)) (M.br (!decide (h≤(1:Int))) (M.pure (Rs.ret (D.tup [D.agg [ik (0:Int),D.sl true 64 [] Tok.nil,D.sl true 66 [] Tok.nil,D.sl true 4 [] Tok.nil,ik (0:Int),D.sl true 64 [] Tok.nil,D.sl true 66 [] Tok.nil,D.sl true 4 [] Tok.nil,ik (0:Int),ik (0:Int),D.sl true 64 [] Tok.nil,D.sl true 66 [] Tok.nil,D.sl true 66 [] Tok.nil],ik (1:Int)]))) (M.br (decide ((1:Int)≤u)) (M.br (!decide (u≤(4096:Int))) (M.pure (Rs.ret (D.tup [D.agg [ik (0:Int),D.sl true 64 [] Tok.nil,D.sl true 66 [] Tok.nil,D.sl true 4 [] Tok.nil,ik (0:Int),D.sl true 64 [] Tok.nil,D.sl true 66 [] Tok.nil,D.sl true 4 [] Tok.nil,ik (0:Int),ik (0:Int),D.sl true 64 [] Tok.nil,D.sl true 66 [] Tok.nil,D.sl true 66 [] Tok.nil],ik (1:Int)]))) (M.pure (Rs.ret (D.tup [D.agg [ik (0:Int),D.sl true 64 [D.agg [ik (0:Int),iv h,iv u]] Tok.full,D.sl true 66 [] Tok.nil,D.sl true 4 [bk true] Tok.full,ik (w64 ((0:Int)+(1:Int))),D.sl true 64 [D.agg [ik (0:Int),iv h,iv u]] Tok.full,D.sl true 66 [] Tok.nil,D.sl true 4 [bk true] Tok.full,ik (1:Int),ik (1:Int),D.sl true 64 [] Tok.nil,D.sl true 66 [] Tok.nil,D.sl true 66 [] Tok.nil],ik (0:Int)])))) (M.pure (Rs.ret (D.tup [D.agg [ik (0:Int),D.sl true 64 [] Tok.nil,D.sl true 66 [] Tok.nil,D.sl true 4 [] Tok.nil,ik (0:Int),D.sl true 64 [] Tok.nil,D.sl true 66 [] Tok.nil,D.sl true 4 [] Tok.nil,ik (0:Int),ik (0:Int),D.sl true 64 [] Tok.nil,D.sl true 66 [] Tok.nil,D.sl true 66 [] Tok.nil],ik (1:Int)]))))) (M.pure (Rs.ret (D.tup [D.agg [ik (0:Int),D.sl true 64 [] Tok.nil,D.sl true 66 [] Tok.nil,D.sl true 4 [] Tok.nil,ik (0:Int),D.sl true 64 [] Tok.nil,D.sl true 66 [] Tok.nil,D.sl true 4 [] Tok.nil,ik (0:Int),ik (0:Int),D.sl true 64 [] Tok.nil,D.sl true 66 [] Tok.nil,D.sl true 66 [] Tok.nil],ik (1:Int)]))))) (M.pure (Rs.ret (D.tup [D.agg [ik (0:Int),D.sl true 64 [] Tok.nil,D.sl true 66 [] Tok.nil,D.sl true 4 [] Tok.nil,ik (0:Int),D.sl true 64 [] Tok.nil,D.sl true 66 [] Tok.nil,D.sl true 4 [] Tok.nil,ik (0:Int),ik (0:Int),D.sl true 64 [] Tok.nil,D.sl true 66 [] Tok.nil,D.sl true 66 [] Tok.nil],ik (1:Int)]))))) (M.pure (Rs.ret (D.tup [D.agg [ik (0:Int),D.sl true 64 [] Tok.nil,D.sl true 66 [] Tok.nil,D.sl true 4 [] Tok.nil,ik (0:Int),D.sl true 64 [] Tok.nil,D.sl true 66 [] Tok.nil,D.sl true 4 [] Tok.nil,ik (0:Int),ik (0:Int),D.sl true 64 [] Tok.nil,D.sl true 66 [] Tok.nil,D.sl true 66 [] Tok.nil],ik (1:Int)])))):=by kernel_rfl
theorem t_bg(h u:Int):callR cBg [7] 7 [iv h,iv u]=(M.call 4 [iv h,iv u] [] fun d0 o0=>M.br (D.int (List.getD (D.parts d0) 1 D.any) != (0:Int)) (M.pure (Rs.ret (D.tup [D.agg [ik (0:Int),D.sl true 64 [] Tok.nil,D.sl true 66 [] Tok.nil,D.sl true 4 [] Tok.nil,ik (0:Int),D.sl true 64 [] Tok.nil,D.sl true 66 [] Tok.nil,D.sl true 4 [] Tok.nil,ik (0:Int),ik (0:Int),D.sl true 64 [] Tok.nil,D.sl true 66 [] Tok.nil,D.sl true 66 [] Tok.nil,D.sl true 57 [] Tok.nil,D.sl true 164 [] Tok.nil,ik (0:Int),bk false,D.sl true 57 [] Tok.nil,D.sl true 164 [] Tok.nil,ik (0:Int),bk false],bk false]))) (M.call 5 [iv (64:Int)] [] fun d1 o1=>M.br (D.int (List.getD (D.parts d1) 1 D.any) != (0:Int)) (M.pure (Rs.ret (D.tup [D.agg [iv (D.int (D.cell (List.getD (D.parts d0) 0 D.any) 0)),D.sl false 64 (D.items (D.cell (List.getD (D.parts d0) 0 D.any) 1)) Tok.non,D.sl false 66 (D.items (D.cell (List.getD (D.parts d0) 0 D.any) 2)) Tok.non,D.sl false 4 (D.items (D.cell (List.getD (D.parts d0) 0 D.any) 3)) Tok.non,iv (D.int (D.cell (List.getD (D.parts d0) 0 D.any) 4)),D.sl false 64 (D.items (D.cell (List.getD (D.parts d0) 0 D.any) 5)) Tok.non,D.sl false 66 (D.items (D.cell (List.getD (D.parts d0) 0 D.any) 6)) Tok.non,D.sl false 4 (D.items (D.cell (List.getD (D.parts d0) 0 D.any) 7)) Tok.non,iv (D.int (D.cell (List.getD (D.parts d0) 0 D.any) 8)),iv (D.int (D.cell (List.getD (D.parts d0) 0 D.any) 9)),D.sl false 64 (D.items (D.cell (List.getD (D.parts d0) 0 D.any) 10)) Tok.non,D.sl false 66 (D.items (D.cell (List.getD (D.parts d0) 0 D.any) 11)) Tok.non,D.sl false 66 (D.items (D.cell (List.getD (D.parts d0) 0 D.any) 12)) Tok.non,D.sl true 57 [] Tok.nil,D.sl true 164 [] Tok.nil,ik (0:Int),bk false,D.sl true 57 [] Tok.nil,D.sl true 164 [] Tok.nil,ik (0:Int),bk false],bk false]))) (M.call 17 [D.agg [iv (D.int (D.cell (List.getD (D.parts d0) 0 D.any) 0)),D.sl false 64 (D.items (D.cell (List.getD (D.parts d0) 0 D.any) 1)) Tok.non,D.sl false 66 (D.items (D.cell (List.getD (D.parts d0) 0 D.any) 2)) Tok.non,D.sl false 4 (D.items (D.cell (List.getD (D.parts d0) 0 D.any) 3)) Tok.non]] [] fun d2 o2=>M.br (D.int (List.getD (D.parts d2) 1 D.any) != (0:Int)) (M.pure (Rs.ret (D.tup [D.agg [iv (D.int (D.cell (List.getD (D.parts d0) 0 D.any) 0)),D.sl false 64 (D.items (D.cell (List.getD (D.parts d0) 0 D.any) 1)) Tok.non,D.sl false 66 (D.items (D.cell (List.getD (D.parts d0) 0 D.any) 2)) Tok.non,D.sl false 4 (D.items (D.cell (List.getD (D.parts d0) 0 D.any) 3)) Tok.non,iv (D.int (D.cell (List.getD (D.parts d0) 0 D.any) 4)),D.sl false 64 (D.items (D.cell (List.getD (D.parts d0) 0 D.any) 5)) Tok.non,D.sl false 66 (D.items (D.cell (List.getD (D.parts d0) 0 D.any) 6)) Tok.non,D.sl false 4 (D.items (D.cell (List.getD (D.parts d0) 0 D.any) 7)) Tok.non,iv (D.int (D.cell (List.getD (D.parts d0) 0 D.any) 8)),iv (D.int (D.cell (List.getD (D.parts d0) 0 D.any) 9)),D.sl false 64 (D.items (D.cell (List.getD (D.parts d0) 0 D.any) 10)) Tok.non,D.sl false 66 (D.items (D.cell (List.getD (D.parts d0) 0 D.any) 11)) Tok.non,D.sl false 66 (D.items (D.cell (List.getD (D.parts d0) 0 D.any) 12)) Tok.non,D.sl false 57 (D.items (D.cell (List.getD (D.parts d1) 0 D.any) 0)) Tok.non,D.sl false 164 (D.items (D.cell (List.getD (D.parts d1) 0 D.any) 1)) Tok.non,iv (D.int (D.cell (List.getD (D.parts d1) 0 D.any) 2)),bv (D.bool (D.cell (List.getD (D.parts d1) 0 D.any) 3)),D.sl true 57 [] Tok.nil,D.sl true 164 [] Tok.nil,ik (0:Int),bk false],bk false]))) (M.call 18 [D.p 0 0 0,iv (0:Int),sl 57 (D.items (List.getD (D.parts d2) 0 D.any)),iv (-1:Int)] [(45,D.agg [iv (D.int (D.cell (List.getD (D.parts d0) 0 D.any) 0)),D.sl false 64 (D.items (D.cell (List.getD (D.parts d0) 0 D.any) 1)) Tok.non,D.sl false 66 (D.items (D.cell (List.getD (D.parts d0) 0 D.any) 2)) Tok.non,D.sl false 4 (D.items (D.cell (List.getD (D.parts d0) 0 D.any) 3)) Tok.non,iv (D.int (D.cell (List.getD (D.parts d0) 0 D.any) 4)),D.sl false 64 (D.items (D.cell (List.getD (D.parts d0) 0 D.any) 5)) Tok.non,D.sl false 66 (D.items (D.cell (List.getD (D.parts d0) 0 D.any) 6)) Tok.non,D.sl false 4 (D.items (D.cell (List.getD (D.parts d0) 0 D.any) 7)) Tok.non,iv (D.int (D.cell (List.getD (D.parts d0) 0 D.any) 8)),iv (D.int (D.cell (List.getD (D.parts d0) 0 D.any) 9)),D.sl false 64 (D.items (D.cell (List.getD (D.parts d0) 0 D.any) 10)) Tok.non,D.sl false 66 (D.items (D.cell (List.getD (D.parts d0) 0 D.any) 11)) Tok.non,D.sl false 66 (D.items (D.cell (List.getD (D.parts d0) 0 D.any) 12)) Tok.non,D.sl false 57 (D.items (D.cell (List.getD (D.parts d1) 0 D.any) 0)) Tok.non,D.sl false 164 (D.items (D.cell (List.getD (D.parts d1) 0 D.any) 1)) Tok.non,iv (D.int (D.cell (List.getD (D.parts d1) 0 D.any) 2)),bv (D.bool (D.cell (List.getD (D.parts d1) 0 D.any) 3)),D.sl false 57 [] Tok.non,D.sl false 164 [] Tok.non,iv (0:Int),bv false])] fun d3 o3=>M.br (!D.bool d3) (M.pure (Rs.ret (D.tup [D.agg [iv (D.int (D.cell (List.getD o3 0 D.any) 0)),sl 64 (D.items (D.cell (List.getD o3 0 D.any) 1)),sl 66 (D.items (D.cell (List.getD o3 0 D.any) 2)),sl 4 (D.items (D.cell (List.getD o3 0 D.any) 3)),iv (D.int (D.cell (List.getD o3 0 D.any) 4)),sl 64 (D.items (D.cell (List.getD o3 0 D.any) 5)),sl 66 (D.items (D.cell (List.getD o3 0 D.any) 6)),sl 4 (D.items (D.cell (List.getD o3 0 D.any) 7)),iv (D.int (D.cell (List.getD o3 0 D.any) 8)),iv (D.int (D.cell (List.getD o3 0 D.any) 9)),sl 64 (D.items (D.cell (List.getD o3 0 D.any) 10)),sl 66 (D.items (D.cell (List.getD o3 0 D.any) 11)),sl 66 (D.items (D.cell (List.getD o3 0 D.any) 12)),sl 57 (D.items (D.cell (List.getD o3 0 D.any) 13)),sl 164 (D.items (D.cell (List.getD o3 0 D.any) 14)),iv (D.int (D.cell (List.getD o3 0 D.any) 15)),bv (D.bool (D.cell (List.getD o3 0 D.any) 16)),sl 57 (D.items (D.cell (List.getD o3 0 D.any) 17)),sl 164 (D.items (D.cell (List.getD o3 0 D.any) 18)),iv (D.int (D.cell (List.getD o3 0 D.any) 19)),bv (D.bool (D.cell (List.getD o3 0 D.any) 20))],bk false]))) (M.call 5 [iv (64:Int)] [] fun d4 o4=>M.br (D.int (List.getD (D.parts d4) 1 D.any) != (0:Int)) (M.pure (Rs.ret (D.tup [D.agg [iv (D.int (D.cell (List.getD o3 0 D.any) 0)),sl 64 (D.items (D.cell (List.getD o3 0 D.any) 1)),sl 66 (D.items (D.cell (List.getD o3 0 D.any) 2)),sl 4 (D.items (D.cell (List.getD o3 0 D.any) 3)),iv (D.int (D.cell (List.getD o3 0 D.any) 4)),sl 64 (D.items (D.cell (List.getD o3 0 D.any) 5)),sl 66 (D.items (D.cell (List.getD o3 0 D.any) 6)),sl 4 (D.items (D.cell (List.getD o3 0 D.any) 7)),iv (D.int (D.cell (List.getD o3 0 D.any) 8)),iv (D.int (D.cell (List.getD o3 0 D.any) 9)),sl 64 (D.items (D.cell (List.getD o3 0 D.any) 10)),sl 66 (D.items (D.cell (List.getD o3 0 D.any) 11)),sl 66 (D.items (D.cell (List.getD o3 0 D.any) 12)),sl 57 (D.items (D.cell (List.getD o3 0 D.any) 13)),sl 164 (D.items (D.cell (List.getD o3 0 D.any) 14)),iv (D.int (D.cell (List.getD o3 0 D.any) 15)),bv (D.bool (D.cell (List.getD o3 0 D.any) 16)),sl 57 (D.items (D.cell (List.getD o3 0 D.any) 17)),sl 164 (D.items (D.cell (List.getD o3 0 D.any) 18)),iv (D.int (D.cell (List.getD o3 0 D.any) 19)),bv (D.bool (D.cell (List.getD o3 0 D.any) 20))],bk false]))) (M.call 17 [D.agg [iv (D.int (D.cell (List.getD (D.parts d0) 0 D.any) 4)),D.sl false 64 (D.items (D.cell (List.getD (D.parts d0) 0 D.any) 5)) Tok.non,D.sl false 66 (D.items (D.cell (List.getD (D.parts d0) 0 D.any) 6)) Tok.non,D.sl false 4 (D.items (D.cell (List.getD (D.parts d0) 0 D.any) 7)) Tok.non]] [] fun d5 o5=>M.br (D.int (List.getD (D.parts d5) 1 D.any) != (0:Int)) (M.pure (Rs.ret (D.tup [D.agg [iv (D.int (D.cell (List.getD o3 0 D.any) 0)),sl 64 (D.items (D.cell (List.getD o3 0 D.any) 1)),sl 66 (D.items (D.cell (List.getD o3 0 D.any) 2)),sl 4 (D.items (D.cell (List.getD o3 0 D.any) 3)),iv (D.int (D.cell (List.getD o3 0 D.any) 4)),sl 64 (D.items (D.cell (List.getD o3 0 D.any) 5)),sl 66 (D.items (D.cell (List.getD o3 0 D.any) 6)),sl 4 (D.items (D.cell (List.getD o3 0 D.any) 7)),iv (D.int (D.cell (List.getD o3 0 D.any) 8)),iv (D.int (D.cell (List.getD o3 0 D.any) 9)),sl 64 (D.items (D.cell (List.getD o3 0 D.any) 10)),sl 66 (D.items (D.cell (List.getD o3 0 D.any) 11)),sl 66 (D.items (D.cell (List.getD o3 0 D.any) 12)),sl 57 (D.items (D.cell (List.getD o3 0 D.any) 13)),sl 164 (D.items (D.cell (List.getD o3 0 D.any) 14)),iv (D.int (D.cell (List.getD o3 0 D.any) 15)),bv (D.bool (D.cell (List.getD o3 0 D.any) 16)),D.sl false 57 (D.items (D.cell (List.getD (D.parts d4) 0 D.any) 0)) Tok.non,D.sl false 164 (D.items (D.cell (List.getD (D.parts d4) 0 D.any) 1)) Tok.non,iv (D.int (D.cell (List.getD (D.parts d4) 0 D.any) 2)),bv (D.bool (D.cell (List.getD (D.parts d4) 0 D.any) 3))],bk false]))) (M.call 18 [D.p 0 0 0,iv (w64 ((0:Int)+(1:Int))),sl 57 (D.items (List.getD (D.parts d5) 0 D.any)),iv (-1:Int)] [(45,D.agg [iv (D.int (D.cell (List.getD o3 0 D.any) 0)),sl 64 (D.items (D.cell (List.getD o3 0 D.any) 1)),sl 66 (D.items (D.cell (List.getD o3 0 D.any) 2)),sl 4 (D.items (D.cell (List.getD o3 0 D.any) 3)),iv (D.int (D.cell (List.getD o3 0 D.any) 4)),sl 64 (D.items (D.cell (List.getD o3 0 D.any) 5)),sl 66 (D.items (D.cell (List.getD o3 0 D.any) 6)),sl 4 (D.items (D.cell (List.getD o3 0 D.any) 7)),iv (D.int (D.cell (List.getD o3 0 D.any) 8)),iv (D.int (D.cell (List.getD o3 0 D.any) 9)),sl 64 (D.items (D.cell (List.getD o3 0 D.any) 10)),sl 66 (D.items (D.cell (List.getD o3 0 D.any) 11)),sl 66 (D.items (D.cell (List.getD o3 0 D.any) 12)),sl 57 (D.items (D.cell (List.getD o3 0 D.any) 13)),sl 164 (D.items (D.cell (List.getD o3 0 D.any) 14)),iv (D.int (D.cell (List.getD o3 0 D.any) 15)),bv (D.bool (D.cell (List.getD o3 0 D.any) 16)),D.sl false 57 (D.items (D.cell (List.getD (D.parts d4) 0 D.any) 0)) Tok.non,D.sl false 164 (D.items (D.cell (List.getD (D.parts d4) 0 D.any) 1)) Tok.non,iv (D.int (D.cell (List.getD (D.parts d4) 0 D.any) 2)),bv (D.bool (D.cell (List.getD (D.parts d4) 0 D.any) 3))])] fun d6 o6=>M.br (!D.bool d6) (M.pure (Rs.ret (D.tup [D.agg [iv (D.int (D.cell (List.getD o6 0 D.any) 0)),sl 64 (D.items (D.cell (List.getD o6 0 D.any) 1)),sl 66 (D.items (D.cell (List.getD o6 0 D.any) 2)),sl 4 (D.items (D.cell (List.getD o6 0 D.any) 3)),iv (D.int (D.cell (List.getD o6 0 D.any) 4)),sl 64 (D.items (D.cell (List.getD o6 0 D.any) 5)),sl 66 (D.items (D.cell (List.getD o6 0 D.any) 6)),sl 4 (D.items (D.cell (List.getD o6 0 D.any) 7)),iv (D.int (D.cell (List.getD o6 0 D.any) 8)),iv (D.int (D.cell (List.getD o6 0 D.any) 9)),sl 64 (D.items (D.cell (List.getD o6 0 D.any) 10)),sl 66 (D.items (D.cell (List.getD o6 0 D.any) 11)),sl 66 (D.items (D.cell (List.getD o6 0 D.any) 12)),sl 57 (D.items (D.cell (List.getD o6 0 D.any) 13)),sl 164 (D.items (D.cell (List.getD o6 0 D.any) 14)),iv (D.int (D.cell (List.getD o6 0 D.any) 15)),bv (D.bool (D.cell (List.getD o6 0 D.any) 16)),sl 57 (D.items (D.cell (List.getD o6 0 D.any) 17)),sl 164 (D.items (D.cell (List.getD o6 0 D.any) 18)),iv (D.int (D.cell (List.getD o6 0 D.any) 19)),bv (D.bool (D.cell (List.getD o6 0 D.any) 20))],bk false]))) (M.pure (Rs.ret (D.tup [D.agg [iv (D.int (D.cell (List.getD o6 0 D.any) 0)),sl 64 (D.items (D.cell (List.getD o6 0 D.any) 1)),sl 66 (D.items (D.cell (List.getD o6 0 D.any) 2)),sl 4 (D.items (D.cell (List.getD o6 0 D.any) 3)),iv (D.int (D.cell (List.getD o6 0 D.any) 4)),sl 64 (D.items (D.cell (List.getD o6 0 D.any) 5)),sl 66 (D.items (D.cell (List.getD o6 0 D.any) 6)),sl 4 (D.items (D.cell (List.getD o6 0 D.any) 7)),iv (D.int (D.cell (List.getD o6 0 D.any) 8)),iv (D.int (D.cell (List.getD o6 0 D.any) 9)),sl 64 (D.items (D.cell (List.getD o6 0 D.any) 10)),sl 66 (D.items (D.cell (List.getD o6 0 D.any) 11)),sl 66 (D.items (D.cell (List.getD o6 0 D.any) 12)),sl 57 (D.items (D.cell (List.getD o6 0 D.any) 13)),sl 164 (D.items (D.cell (List.getD o6 0 D.any) 14)),iv (D.int (D.cell (List.getD o6 0 D.any) 15)),bv (D.bool (D.cell (List.getD o6 0 D.any) 16)),sl 57 (D.items (D.cell (List.getD o6 0 D.any) 17)),sl 164 (D.items (D.cell (List.getD o6 0 D.any) 18)),iv (D.int (D.cell (List.getD o6 0 D.any) 19)),bv (D.bool (D.cell (List.getD o6 0 D.any) 20))],bk true])))))))))):=by kernel_rfl
def en0(h u:Int):En:=⟨true,⟨0,h,u⟩,⟨0,0⟩⟩
def p00(h u:Int):Pq:=⟨ofE 0 [en0 h u],ofE 1 [en0 h u],1,1,[],[],[]⟩
theorem start53(h u:Int)(h0:0≤h)(h1:h≤1)(u0:1≤u)(u1:u≤4096)(H:Heap):CallSd PP 4 [iv h,iv u] H (.ret (.tup [dPq (p00 h u),iv 0])) H:=by
 refine con_of (E:=Z.E0) (Γ:=consΓ (P:=PP) []) (C:=cSt) (l:=[4,10,12]) (.tup [kPq,kI]) (cons_ok rfl) (named_free (fun f t c s=>rfl) (List.all_eq_true.1 (by kernel_rfl:[4,10,12].all freeB=true))) rfl rfl rfl (to_wp ?_) H
 rw [t_st]
 have a0:=decide_eq_true h0
 have a1:=decide_eq_true h1
 have b0:=decide_eq_true u0
 have b1:=decide_eq_true u1
 rw [a0,a1,b0,b1]
 refine⟨fun _=>⟨(fun q=>nomatch q),fun _=>⟨fun _=>⟨(fun q=>nomatch q),fun _=>⟨fun _=>⟨(fun q=>nomatch q),fun _=>⟨fun _=>⟨(fun q=>nomatch q),fun _=>⟨_,_,rfl,rfl,rfl⟩⟩,fun q=>nomatch q⟩⟩,fun q=>nomatch q⟩⟩,fun q=>nomatch q⟩⟩,fun q=>nomatch q⟩
def conStart:Con PP:=⟨4,[kI,kI],.tup [kPq,kI],fun args d=>∃ h u,0≤h∧h≤1∧1≤u∧u≤4096∧args=[iv h,iv u]∧d=.tup [dPq (p00 h u),iv 0],fun args d ⟨h,u,h0,h1,u0,u1,ha,hd⟩ H=>by subst ha;subst hd;exact start53 h u h0 h1 u0 u1 H⟩
theorem ve0(s h u:Int)(hs:s=0∨s=1)(h0:0≤h)(h1:h≤1)(u0:1≤u)(u1:u≤4096):VE s [en0 h u]:=by
 refine⟨hs,(fun h=>nomatch h),(show 1≤256 by decide),(show 1<100000 by decide),fun x hx=>?_,fun i x hx=>?_⟩
 ·rw [List.mem_singleton.1 hx];rfl
 match i,hx with
 | 0,hx =>
  obtain rfl:=Option.some.inj hx
  show folP (ofE s []) ⟨0,h,u⟩=true
  unfold folP
  simp only [Bool.and_eq_true,decide_eq_true_eq]
  exact⟨⟨⟨⟨rfl,h0⟩,h1⟩,by show(0:Int)<u;omega⟩,u1⟩
 | i+1,hx=>simp at hx
theorem dsd_new:DSd (newD 64) [] 0:=by
 have hS:∀ (i:Nat) s,(newD 64).se[i]?=some s→s=zS:=fun i s hs=>(List.mem_replicate.1 (List.mem_of_getElem? hs)).2
 exact⟨rfl,(fun x hx=>nomatch hx),(fun i x hx=>by simp at hx),List.length_replicate ..,Nat.zero_le _,(fun i x hx=>by simp at hx),(fun s hs=>.inl (hS _ s hs)),fun i s hs _=>hS i s hs⟩
theorem vp0(h u:Int)(h0:0≤h)(h1:h≤1)(u0:1≤u)(u1:u≤4096):VP (p00 h u) [en0 h u] [en0 h u] :=
 ⟨ve0 0 h u (.inl rfl) h0 h1 u0 u1,ve0 1 h u (.inr rfl) h0 h1 u0 u1,rfl,rfl,(show(1:Int)≤1∧(1:Int)≤((1:Nat):Int) by decide),(show(1:Int)≤1∧(1:Int)≤((1:Nat):Int) by decide),(fun c hc=>nomatch hc),(fun c hc=>nomatch hc),(fun l hl=>nomatch hl),(show 0<100000 by decide),(show 0<100000 by decide),(show 0<100000 by decide)⟩
abbrev conBg:List (Con PP):=[conStart,conNw,conRcs]
abbrev gBg:Cn:=consΓB [conWr] (consΓ conBg)
theorem bBg_ok{E:LId→LSt→M Rd1}:CallOk PP E gBg cBg.base:=show CallOk PP E gBg bBg from consB_ok (m:=rwBg) (mb:=[⟨18,0,45,kSg,kWr,.one kB,false⟩]) (l:=conBg) (lb:=[conWr]) rfl rfl
def zDi:Di:=⟨[],[],0,false⟩
theorem bg_ex(h u:Int)(h0:0≤h)(h1:h≤1)(u0:1≤u)(u1:u≤4096):∃ s,SI s [en0 h u] [en0 h u] 1∧s.p=p00 h u∧VvD s.d0∧VvD s.d1∧∀ H,CallSd PP 7 [iv h,iv u] H (.ret (.tup [dSg s,bv true])) H:=by
 have hz:VvD zDi:=⟨(fun s hs=>nomatch hs),fun w hw=>nomatch hw⟩
 have v0:=ve0 0 h u (.inl rfl) h0 h1 u0 u1
 have v1:=ve0 1 h u (.inr rfl) h0 h1 u0 u1
 have hone:(recsE [en0 h u]).length=1:=rfl
 obtain⟨d0,m0,g0,a1,a2,a3,a4,a5,c0⟩:=wr_ex 0 (.inl rfl) ⟨p00 h u,newD 64,zDi⟩ (recsE [en0 h u]) (-1) [] 0 dsd_new dsd_new.vv hz rfl (Nat.zero_le _) (by rw [hone];decide) (recs_by v0) (by decide) (by decide) (by decide)
 obtain⟨d1,m1,g1,b1,b2,b3,b4,b5,c1⟩:=wr_ex 1 (.inr rfl) ⟨p00 h u,d0,newD 64⟩ (recsE [en0 h u]) (-1) [] 0 dsd_new a4.vv dsd_new.vv rfl (Nat.zero_le _) (by rw [hone];decide) (recs_by v1) (by decide) (by decide) (by decide)
 rw [a3 rfl,hone]at a5
 rw [b3 rfl,hone]at b5
 refine⟨⟨p00 h u,d0,d1⟩,⟨vp0 h u h0 h1 u0 u1,⟨g0,a4,a5⟩,⟨g1,b4,b5⟩,(show 1≤64 by decide),(show 1≤64 by decide),by decide⟩,rfl,a4.vv,b4.vv,fun H=>?_⟩
 rw [show Sg.setD ⟨p00 h u,newD 64,zDi⟩ 0 d0=⟨p00 h u,d0,zDi⟩ from rfl]at c0
 rw [show Sg.setD ⟨p00 h u,d0,newD 64⟩ 1 d1=⟨p00 h u,d0,d1⟩ from rfl]at c1
 refine con_of (E:=Z.E0) (Γ:=gBg) (C:=cBg) (l:=[7]) (.tup [kSg,kB]) bBg_ok (named_free (fun f t c s=>rfl) (List.all_eq_true.1 (by kernel_rfl:[7].all freeB=true))) rfl rfl rfl (to_wp ?_) H
 rw [t_bg]
 have hr0:consΓ conBg 17 [dRp (ofE 0 [en0 h u])] [] (.ret (.tup [sl 57 ((recsE [en0 h u]).map dSe),iv 0]) []):=⟨conRcs,rfl,_,⟨0,[en0 h u],v0,rfl,by rw [rcs_recs]⟩,rfl⟩
 have hr1:consΓ conBg 17 [dRp (ofE 1 [en0 h u])] [] (.ret (.tup [sl 57 ((recsE [en0 h u]).map dSe),iv 0]) []):=⟨conRcs,rfl,_,⟨1,[en0 h u],v1,rfl,by rw [rcs_recs]⟩,rfl⟩
 have hn:consΓ conBg 5 [iv ((64:Nat):Int)] [] (.ret (.tup [dDi (newD 64),iv 0]) []):=⟨conNw,rfl,_,⟨64,.inr rfl,rfl,rfl⟩,rfl⟩
 have hw1:w64 ((0:Int)+(1:Int))=1:=w64_id (by decide) (by decide)
 rw [hw1]
 refine⟨.tup [dPq (p00 h u),iv 0],[],.inl ⟨rfl,conStart,rfl,_,⟨h,u,h0,h1,u0,u1,rfl,rfl⟩,rfl⟩,(fun q=>nomatch q),fun _=>⟨.tup [dDi (newD 64),iv 0],[],.inl ⟨rfl,hn⟩,(fun q=>nomatch q),fun _=>⟨.tup [sl 57 ((recsE [en0 h u]).map dSe),iv 0],[],.inl ⟨rfl,hr0⟩,(fun q=>nomatch q),fun _=>⟨bv true,[dSg ⟨p00 h u,d0,zDi⟩],.inr ⟨conWr,rfl,_,dSg ⟨p00 h u,newD 64,zDi⟩,bv true,dSg ⟨p00 h u,d0,zDi⟩,rfl,rfl,c0,rfl⟩,(fun q=>nomatch q),fun _=>⟨.tup [dDi (newD 64),iv 0],[],.inl ⟨rfl,hn⟩,(fun q=>nomatch q),fun _=>⟨.tup [sl 57 ((recsE [en0 h u]).map dSe),iv 0],[],.inl ⟨rfl,hr1⟩,(fun q=>nomatch q),fun _=>⟨bv true,[dSg ⟨p00 h u,d0,d1⟩],.inr ⟨conWr,rfl,_,dSg ⟨p00 h u,d0,newD 64⟩,bv true,dSg ⟨p00 h u,d0,d1⟩,rfl,rfl,c1,rfl⟩,(fun q=>nomatch q),fun _=>⟨_,_,rfl,rfl,?_⟩⟩⟩⟩⟩⟩⟩⟩
 show D.tup [(dSg ⟨p00 h u,d0,d1⟩).vv,bv true]=_
 rw [vv_sg (s:=⟨p00 h u,d0,d1⟩) a4.vv b4.vv]
end Z
namespace Z
theorem le_pre(E:List En)(n:Nat):leE (E.take n)<+:leE E:=by
 unfold leE
 obtain⟨t,ht⟩:=List.take_prefix n E
 refine⟨(t.filter (·.is)).map (·.le),?_⟩
 rw [← List.map_append,← List.filter_append,ht]
theorem ca_pre(E:List En)(n:Nat):caE (E.take n)<+:caE E:=by
 unfold caE
 obtain⟨t,ht⟩:=List.take_prefix n E
 refine⟨(t.filter (!·.is)).map (·.ca),?_⟩
 rw [← List.map_append,← List.filter_append,ht]
theorem pre_get{α:Type}{a b:List α}(h:a<+:b){i:Nat}{x:α}(hx:a[i]?=some x):b[i]?=some x:=by
 obtain⟨t,rfl⟩:=h
 rw [List.getElem?_append_left (List.getElem?_eq_some_iff.1 hx).1];exact hx
theorem pre_find{α:Type}{a b:List α}{p:α→Bool}{x:α}(h:a<+:b)(hx:a.find? p=some x):b.find? p=some x:=by
 obtain⟨t,rfl⟩:=h
 rw [List.find?_append,hx];rfl
theorem le_add(E:List En)(x:En):leE (E++[x])=if x.is=true then leE E++[x.le]else leE E:=by
 unfold leE
 cases h:x.is<;>simp [List.filter_append,h]
theorem ca_add(E:List En)(x:En):caE (E++[x])=if x.is=true then caE E else caE E++[x.ca]:=by
 unfold caE
 cases h:x.is<;>simp [List.filter_append,h]
theorem take_add{E:List En}{x:En}{a:Int}(h:a≤E.length):(E++[x]).take a.toNat=E.take a.toNat:=List.take_append_of_le_length (by omega)
theorem synB_add{E:List En}{x:En}{a:Int}{hit:En→Bool}(h:a≤E.length):synB (E++[x]) a hit=synB E a hit:=by
 unfold synB
 rw [take_add h]
theorem ve_add{s:Int}{E:List En}{x:En}(hv:VE s E)(hx:Nf x)(hn:nextP (ofE s E) x=true)(hl:(leE (E++[x])).length≤256)(hs:E.length+1<100000):VE s (E++[x]):=by
 refine⟨hv.self,by simp,hl,by rw [List.length_append];exact hs,fun y hy=>?_,fun i y hy=>?_⟩
 ·rcases List.mem_append.1 hy with hy|hy
  ·exact hv.nf y hy
  rw [List.mem_singleton.1 hy];exact hx
 by_cases hi:i<E.length
 ·rw [List.getElem?_append_left hi]at hy
  rw [List.take_append_of_le_length (Nat.le_of_lt hi)]
  exact hv.nx i y hy
 have he:i=E.length:=by
  have:=(List.getElem?_eq_some_iff.1 hy).1
  rw [List.length_append,List.length_singleton]at this
  omega
 subst he
 rw [List.getElem?_append_right (Nat.le_refl _),Nat.sub_self]at hy
 obtain rfl:=Option.some.inj hy
 rw [List.take_left]
 exact hn
theorem ve_no{s:Int}{E:List En}(hv:VE s E):∀ n,∀ (k:Nat) l,(leE (E.take n))[k]?=some l→l.no=(k:Int):=by
 intro n
 induction n with
 | zero=>intro k l h;simp [leE]at h
 | succ n ih =>
  intro k l h
  cases hx:E[n]? with
  | none=>rw [List.take_of_length_le (by have:=List.getElem?_eq_none_iff.1 hx;omega)]at h;rw [List.take_of_length_le (by have:=List.getElem?_eq_none_iff.1 hx;omega)]at ih;exact ih k l h
  | some x =>
   rw [take_one hx,le_add]at h
   split at h
   ·rename_i hb
    by_cases hk:k<(leE (E.take n)).length
    ·rw [List.getElem?_append_left hk]at h;exact ih k l h
    have hlt:=(List.getElem?_eq_some_iff.1 h).1
    rw [List.length_append,List.length_singleton]at hlt
    have hke:k=(leE (E.take n)).length:=by omega
    rw [List.getElem?_append_right (by omega),hke,Nat.sub_self]at h
    obtain rfl:=Option.some.inj h
    have hn:=hv.nx n x hx
    unfold nextP at hn
    rw [hb]at hn
    have hn:folP (ofE s (E.take n)) x.le=true:=hn
    unfold folP at hn
    simp only [Bool.and_eq_true,beq_iff_eq]at hn
    rw [hn.1.1.1.1,hke];rfl
   exact ih k l h
theorem ve_cov{s:Int}{E:List En}(hv:VE s E){c:Ca}(h:c∈caE E):∃ l,(leE E).find? (fun l=>decide (c.bar<l.un))=some l∧l.ho=s:=by
 obtain⟨x,hx,rfl⟩:=List.mem_map.1 h
 obtain⟨hx,hb⟩:=List.mem_filter.1 hx
 obtain⟨i,hi⟩:=List.mem_iff_getElem?.1 hx
 have hn:=hv.nx i x hi
 have hb:x.is=false:=by simpa using hb
 unfold nextP at hn
 rw [hb]at hn
 have hn:mayP (ofE s (E.take i)) x.ca=true:=hn
 unfold mayP mineP at hn
 simp only [Bool.and_eq_true]at hn
 have h2:=hn.1.1.1.2
 cases hf:(ofE s (E.take i)).le.find? fun l=>decide (x.ca.bar<l.un)with
 | none=>rw [hf]at h2;cases h2
 | some l =>
  rw [hf]at h2
  exact⟨l,pre_find (le_pre E i) hf,eq_of_beq h2⟩
theorem ve_inc{s:Int}{E:List En}(hv:VE s E):∀ n,((caE (E.take n)).Pairwise fun a b=>a.bar<b.bar)∧∀ x∈caE (E.take n),∀ y,(caE (E.take n)).getLast?=some y→x.bar≤y.bar:=by
 intro n
 induction n with
 | zero=>exact⟨.nil,fun x hx=>nomatch hx⟩
 | succ n ih =>
  cases hx:E[n]? with
  | none =>
   have e:E.take (n+1)=E.take n:=by
    have:=List.getElem?_eq_none_iff.1 hx
    rw [List.take_of_length_le (by omega),List.take_of_length_le (by omega)]
   rw [e];exact ih
  | some x =>
   rw [take_one hx,ca_add]
   split
   ·exact ih
   rename_i hb
   have hn:=hv.nx n x hx
   have hb:x.is=false:=by simpa using hb
   unfold nextP at hn
   rw [hb]at hn
   have hn:mayP (ofE s (E.take n)) x.ca=true:=hn
   unfold mayP at hn
   simp only [Bool.and_eq_true]at hn
   have h2:=hn.1.1.2
   have hlt:∀ a∈caE (E.take n),a.bar<x.ca.bar:=fun a ha=>by
    cases hl:(caE (E.take n)).getLast? with
    | none=>rw [List.getLast?_eq_none_iff.1 hl]at ha;exact nomatch ha
    | some y =>
     have h3:=ih.2 a ha y hl
     have h2:(match (caE (E.take n)).getLast? with|some d=>decide (d.bar<x.ca.bar)|none=>true)=true:=h2
     rw [hl]at h2
     have:=of_decide_eq_true h2
     omega
   refine⟨List.pairwise_append.2 ⟨ih.1,List.pairwise_singleton ..,fun a ha b hb'=>by rw [List.mem_singleton.1 hb'];exact hlt a ha⟩,fun a ha y hy=>?_⟩
   rw [List.getLast?_append,List.getLast?_singleton]at hy
   obtain rfl:=Option.some.inj hy
   rcases List.mem_append.1 ha with ha|ha
   ·exact Int.le_of_lt (hlt a ha)
   rw [List.mem_singleton.1 ha];exact Int.le_refl _
theorem pw_eq{l:List Ca}(h:l.Pairwise fun a b=>a.bar<b.bar):∀ c∈l,∀ d∈l,c.bar=d.bar→c=d:=by
 induction l with
 | nil=>exact fun c hc=>nomatch hc
 | cons x l ih =>
  obtain⟨h1,h2⟩:=List.pairwise_cons.1 h
  intro c hc d hd he
  rcases List.mem_cons.1 hc with hcx|hcl
  ·rcases List.mem_cons.1 hd with hdx|hdl
   ·rw [hcx,hdx]
   ·have:=h1 d hdl;rw [← hcx]at this;omega
  rcases List.mem_cons.1 hd with hdx|hdl
  ·have:=h1 c hcl;rw [← hdx]at this;omega
  exact ih h2 c hcl d hdl he
theorem ve_one{s:Int}{E:List En}(hv:VE s E):∀ c∈caE E,∀ d∈caE E,c.bar=d.bar→c=d:=by
 have:=(ve_inc hv E.length).1
 rw [List.take_length]at this
 exact pw_eq this
def Dcd(E E':List En)(n':Nat)(w':Int):Prop:=∀ (k:Nat) a b,(leE E)[k]?=some a→(leE E)[k+1]?=some b→a.ho=w'→k+1<(leE (E'.take n')).length
structure LI(E0 E1:List En)(s0 s1:Int):Prop where
 cmp:leE E0<+:leE E1∨leE E1<+:leE E0
 d0:Dcd E0 E1 s1.toNat 1
 d1:Dcd E1 E0 s0.toNat 0
theorem pre_len{α:Type}{a b:List α}(h:a<+:b):a.length≤b.length:=h.length_le
theorem sep_ok{E0 E1:List En}(v0:VE 0 E0)(v1:VE 1 E1)(hc:leE E0<+:leE E1∨leE E1<+:leE E0):∀ c∈caE E0,∀ d∈caE E1,c.bar≠d.bar:=by
 intro c hc0 d hd1 he
 obtain⟨l0,h1,h2⟩:=ve_cov v0 hc0
 obtain⟨l1,h3,h4⟩:=ve_cov v1 hd1
 rw [← he]at h3
 rcases hc with hc|hc
 ·have:=pre_find hc h1
  rw [h3]at this
  obtain rfl:=Option.some.inj this
  omega
 ·have:=pre_find hc h3
  rw [h1]at this
  obtain rfl:=Option.some.inj this
  omega
theorem vp_add0{p:Pq}{E0 E1:List En}{x:En}(hv:VP p E0 E1)(hx:VE 0 (E0++[x])):VP { p with r0:=ofE 0 (E0++[x]) } (E0++[x]) E1:=by
 have hy:=hv.y0
 have hs:∀ hit,synB (E0++[x]) p.s0 hit=synB E0 p.s0 hit:=fun hit=>synB_add hy.2
 exact { hv with v0:=hx,e0:=rfl,y0:=⟨hy.1,by rw [List.length_append];show p.s0≤((E0.length+1:Nat):Int);omega⟩,k0:=fun c hc=>(hs _).trans (hv.k0 c hc),tl:=fun l hl=>by simp only [hs];exact hv.tl l hl }
theorem li_call0{E0 E1:List En}{s0 s1:Int}{x:En}(h:LI E0 E1 s0 s1)(hb:x.is=false)(hy:s0≤E0.length):LI (E0++[x]) E1 s0 s1:=by
 have e:leE (E0++[x])=leE E0:=by rw [le_add,hb];rfl
 obtain⟨h1,h2,h3⟩:=h
 refine⟨by rw [e];exact h1,?_,?_⟩
 ·unfold Dcd at h2 ⊢
  first|(rw [e];exact h2)|(rw [take_add hy];exact h2)
 unfold Dcd at h3 ⊢
 first|(rw [e];exact h3)|(rw [take_add hy];exact h3)
theorem li_dec0{E0 E1:List En}{s0 s1:Int}{x z:En}{l:Le}(h:LI E0 E1 s0 s1)(v0:VE 0 E0)(v1:VE 1 E1)(hb:x.is=true)(hy:s0≤E0.length)(hl:(leE E0).getLast?=some l)(hh:l.ho=0):LI (E0++[x]) E1 s0 s1:=by
 have e:leE (E0++[x])=leE E0++[x.le]:=by rw [le_add,hb];rfl
 obtain⟨h1,h2,h3⟩:=h
 have hlast:(leE E0)[(leE E0).length-1]?=some l:=by rw [← List.getLast?_eq_getElem?];exact hl
 have hpos:0<(leE E0).length:=by
  rcases Nat.eq_zero_or_pos (leE E0).length with h0|h0
  ·rw [List.length_eq_zero_iff.1 h0]at hl;cases hl
  exact h0
 have hnew:∀ (k:Nat) a b,(leE E0++[x.le])[k]?=some a→(leE E0++[x.le])[k+1]?=some b→a.ho=1→(leE E0)[k]?=some a∧(leE E0)[k+1]?=some b:=fun k a b g1 g2 g3=>by
  by_cases hk:k+1<(leE E0).length
  ·rw [List.getElem?_append_left (by omega)]at g1
   rw [List.getElem?_append_left hk]at g2
   exact⟨g1,g2⟩
  have hlt:=(List.getElem?_eq_some_iff.1 g2).1
  rw [List.length_append,List.length_singleton]at hlt
  rw [List.getElem?_append_left (by omega),show k=(leE E0).length-1 by omega,hlast]at g1
  obtain rfl:=Option.some.inj g1
  omega
 have hsh:(leE E1).length≤(leE E0).length∨¬ leE E0<+:leE E1:=by
  by_cases hc:leE E0<+:leE E1
  ·refine .inl ?_
   rcases Nat.lt_or_ge (leE E0).length (leE E1).length with hlt|hge
   ·have g1:=pre_get hc hlast
    have g2:=List.getElem?_eq_getElem hlt
    have g3:=h3 ((leE E0).length-1) l _ g1 (by rw [show(leE E0).length-1+1=(leE E0).length by omega];exact g2) hh
    have g4:=pre_len (le_pre E0 s0.toNat)
    omega
   exact hge
  exact .inr hc
 have hpre:leE E1<+:leE E0:=by
  rcases h1 with h1|h1
  ·first|exact h1|(
    rcases hsh with hsh|hsh
    ·rw [List.IsPrefix.eq_of_length_le h1 hsh];exact List.prefix_rfl
    exact absurd h1 hsh)
  first|exact h1|(
   rcases hsh with hsh|hsh
   ·rw [List.IsPrefix.eq_of_length_le h1 hsh];exact List.prefix_rfl
   exact absurd h1 hsh)
 refine⟨by rw [e];exact .inr (hpre.trans (List.prefix_append _ _)),?_,?_⟩
 ·unfold Dcd at h2 ⊢
  first|(rw [take_add hy];exact h2)|(rw [e];exact fun k a b g1 g2 g3=>h2 k a b (hnew k a b g1 g2 g3).1 (hnew k a b g1 g2 g3).2 g3)
 unfold Dcd at h3 ⊢
 first|(rw [take_add hy];exact h3)|(rw [e];exact fun k a b g1 g2 g3=>h3 k a b (hnew k a b g1 g2 g3).1 (hnew k a b g1 g2 g3).2 g3)
theorem li_lrn0{E0 E1:List En}{s0 s1:Int}{x:En}(h:LI E0 E1 s0 s1)(v0:VE 0 E0)(v1:VE 1 E1)(hb:x.is=true)(hy:s0≤E0.length)(hno:x.le.no=((leE E0).length:Int))(hs:x.le∈leE (E1.take s1.toNat)):LI (E0++[x]) E1 s0 s1:=by
 have e:leE (E0++[x])=leE E0++[x.le]:=by rw [le_add,hb];rfl
 obtain⟨h1,h2,h3⟩:=h
 obtain⟨i,hi⟩:=List.mem_iff_getElem?.1 hs
 have hin:=ve_no v1 _ i _ hi
 have hie:i=(leE E0).length:=by omega
 subst hie
 have hlt:=(List.getElem?_eq_some_iff.1 hi).1
 have hge:=pre_get (le_pre E1 s1.toNat) hi
 have hlo:=(List.getElem?_eq_some_iff.1 hge).1
 have hpre:leE E0<+:leE E1:=by
  rcases h1 with h1|h1
  ·first|exact h1|(have:=pre_len h1;omega)
  first|exact h1|(have:=pre_len h1;omega)
 have hpre2:leE E0++[x.le]<+:leE E1:=by
  obtain⟨t,ht⟩:=hpre
  rw [← ht]at hge ⊢
  rw [List.getElem?_append_right (Nat.le_refl _),Nat.sub_self]at hge
  cases t with
  | nil=>cases hge
  | cons y t =>
   obtain rfl:=Option.some.inj hge
   exact⟨t,by simp⟩
 have hnew:∀ (k:Nat) a b,(leE E0++[x.le])[k]?=some a→(leE E0++[x.le])[k+1]?=some b→a.ho=1→(∀ (k:Nat) a b,(leE E0)[k]?=some a→(leE E0)[k+1]?=some b→a.ho=1→k+1<(leE (E1.take s1.toNat)).length)→k+1<(leE (E1.take s1.toNat)).length:=fun k a b g1 g2 g3 hold=>by
  by_cases hk:k+1<(leE E0).length
  ·rw [List.getElem?_append_left (by omega)]at g1
   rw [List.getElem?_append_left hk]at g2
   exact hold k a b g1 g2 g3
  ·have:=(List.getElem?_eq_some_iff.1 g2).1
   rw [List.length_append,List.length_singleton]at this
   omega
 refine⟨by rw [e];exact .inl hpre2,?_,?_⟩
 ·unfold Dcd at h2 ⊢
  first|(rw [take_add hy];exact h2)|(rw [e];exact fun k a b g1 g2 g3=>hnew k a b g1 g2 g3 h2)
 unfold Dcd at h3 ⊢
 first|(rw [take_add hy];exact h3)|(rw [e];exact fun k a b g1 g2 g3=>hnew k a b g1 g2 g3 h3)
theorem li_cut0{E0 E1:List En}{s0 s1:Int}{n:Nat}(h:LI E0 E1 s0 s1)(hn:s0≤n):LI (E0.take n) E1 (n:Int) s1:=by
 obtain⟨h1,h2,h3⟩:=h
 have hp:=le_pre E0 n
 have hl:(leE (E0.take s0.toNat)).length≤(leE ((E0.take n).take n)).length:=by
  rw [List.take_take,Nat.min_self]
  have:=pre_len (le_pre (E0.take n) s0.toNat)
  rwa [List.take_take,Nat.min_eq_left (by omega)]at this
 refine⟨?_,?_,?_⟩
 ·rcases h1 with h1|h1
  ·first|exact .inl (hp.trans h1)|exact(List.prefix_or_prefix_of_prefix h1 hp)
  first|exact .inr (hp.trans h1)|exact(List.prefix_or_prefix_of_prefix hp h1)
 ·unfold Dcd at h2 ⊢
  first|exact fun k a b g1 g2 g3=>h2 k a b (pre_get hp g1) (pre_get hp g2) g3|exact fun k a b g1 g2 g3=>Nat.lt_of_lt_of_le (h2 k a b g1 g2 g3) (by rw [Int.toNat_natCast];exact hl)
 unfold Dcd at h3 ⊢
 first|exact fun k a b g1 g2 g3=>h3 k a b (pre_get hp g1) (pre_get hp g2) g3|exact fun k a b g1 g2 g3=>Nat.lt_of_lt_of_le (h3 k a b g1 g2 g3) (by rw [Int.toNat_natCast];exact hl)
theorem vp_add1{p:Pq}{E0 E1:List En}{x:En}(hv:VP p E0 E1)(hx:VE 1 (E1++[x])):VP { p with r1:=ofE 1 (E1++[x]) } E0 (E1++[x]):=by
 have hy:=hv.y1
 have hs:∀ hit,synB (E1++[x]) p.s1 hit=synB E1 p.s1 hit:=fun hit=>synB_add hy.2
 exact { hv with v1:=hx,e1:=rfl,y1:=⟨hy.1,by rw [List.length_append];show p.s1≤((E1.length+1:Nat):Int);omega⟩,k1:=fun c hc=>(hs _).trans (hv.k1 c hc),tl:=fun l hl=>by simp only [hs];exact hv.tl l hl }
theorem li_call1{E0 E1:List En}{s0 s1:Int}{x:En}(h:LI E0 E1 s0 s1)(hb:x.is=false)(hy:s1≤E1.length):LI E0 (E1++[x]) s0 s1:=by
 have e:leE (E1++[x])=leE E1:=by rw [le_add,hb];rfl
 obtain⟨h1,h2,h3⟩:=h
 refine⟨by rw [e];exact h1,?_,?_⟩
 ·unfold Dcd at h2 ⊢
  first|(rw [e];exact h2)|(rw [take_add hy];exact h2)
 unfold Dcd at h3 ⊢
 first|(rw [e];exact h3)|(rw [take_add hy];exact h3)
theorem li_dec1{E0 E1:List En}{s0 s1:Int}{x z:En}{l:Le}(h:LI E0 E1 s0 s1)(v0:VE 0 E0)(v1:VE 1 E1)(hb:x.is=true)(hy:s1≤E1.length)(hl:(leE E1).getLast?=some l)(hh:l.ho=1):LI E0 (E1++[x]) s0 s1:=by
 have e:leE (E1++[x])=leE E1++[x.le]:=by rw [le_add,hb];rfl
 obtain⟨h1,h2,h3⟩:=h
 have hlast:(leE E1)[(leE E1).length-1]?=some l:=by rw [← List.getLast?_eq_getElem?];exact hl
 have hpos:0<(leE E1).length:=by
  rcases Nat.eq_zero_or_pos (leE E1).length with h0|h0
  ·rw [List.length_eq_zero_iff.1 h0]at hl;cases hl
  exact h0
 have hnew:∀ (k:Nat) a b,(leE E1++[x.le])[k]?=some a→(leE E1++[x.le])[k+1]?=some b→a.ho=0→(leE E1)[k]?=some a∧(leE E1)[k+1]?=some b:=fun k a b g1 g2 g3=>by
  by_cases hk:k+1<(leE E1).length
  ·rw [List.getElem?_append_left (by omega)]at g1
   rw [List.getElem?_append_left hk]at g2
   exact⟨g1,g2⟩
  have hlt:=(List.getElem?_eq_some_iff.1 g2).1
  rw [List.length_append,List.length_singleton]at hlt
  rw [List.getElem?_append_left (by omega),show k=(leE E1).length-1 by omega,hlast]at g1
  obtain rfl:=Option.some.inj g1
  omega
 have hsh:(leE E0).length≤(leE E1).length∨¬ leE E1<+:leE E0:=by
  by_cases hc:leE E1<+:leE E0
  ·refine .inl ?_
   rcases Nat.lt_or_ge (leE E1).length (leE E0).length with hlt|hge
   ·have g1:=pre_get hc hlast
    have g2:=List.getElem?_eq_getElem hlt
    have g3:=h2 ((leE E1).length-1) l _ g1 (by rw [show(leE E1).length-1+1=(leE E1).length by omega];exact g2) hh
    have g4:=pre_len (le_pre E1 s1.toNat)
    omega
   exact hge
  exact .inr hc
 have hpre:leE E0<+:leE E1:=by
  rcases h1 with h1|h1
  ·first|exact h1|(
    rcases hsh with hsh|hsh
    ·rw [List.IsPrefix.eq_of_length_le h1 hsh];exact List.prefix_rfl
    exact absurd h1 hsh)
  first|exact h1|(
   rcases hsh with hsh|hsh
   ·rw [List.IsPrefix.eq_of_length_le h1 hsh];exact List.prefix_rfl
   exact absurd h1 hsh)
 refine⟨by rw [e];exact .inl (hpre.trans (List.prefix_append _ _)),?_,?_⟩
 ·unfold Dcd at h2 ⊢
  first|(rw [take_add hy];exact h2)|(rw [e];exact fun k a b g1 g2 g3=>h2 k a b (hnew k a b g1 g2 g3).1 (hnew k a b g1 g2 g3).2 g3)
 unfold Dcd at h3 ⊢
 first|(rw [take_add hy];exact h3)|(rw [e];exact fun k a b g1 g2 g3=>h3 k a b (hnew k a b g1 g2 g3).1 (hnew k a b g1 g2 g3).2 g3)
theorem li_lrn1{E0 E1:List En}{s0 s1:Int}{x:En}(h:LI E0 E1 s0 s1)(v0:VE 0 E0)(v1:VE 1 E1)(hb:x.is=true)(hy:s1≤E1.length)(hno:x.le.no=((leE E1).length:Int))(hs:x.le∈leE (E0.take s0.toNat)):LI E0 (E1++[x]) s0 s1:=by
 have e:leE (E1++[x])=leE E1++[x.le]:=by rw [le_add,hb];rfl
 obtain⟨h1,h2,h3⟩:=h
 obtain⟨i,hi⟩:=List.mem_iff_getElem?.1 hs
 have hin:=ve_no v0 _ i _ hi
 have hie:i=(leE E1).length:=by omega
 subst hie
 have hlt:=(List.getElem?_eq_some_iff.1 hi).1
 have hge:=pre_get (le_pre E0 s0.toNat) hi
 have hlo:=(List.getElem?_eq_some_iff.1 hge).1
 have hpre:leE E1<+:leE E0:=by
  rcases h1 with h1|h1
  ·first|exact h1|(have:=pre_len h1;omega)
  first|exact h1|(have:=pre_len h1;omega)
 have hpre2:leE E1++[x.le]<+:leE E0:=by
  obtain⟨t,ht⟩:=hpre
  rw [← ht]at hge ⊢
  rw [List.getElem?_append_right (Nat.le_refl _),Nat.sub_self]at hge
  cases t with
  | nil=>cases hge
  | cons y t =>
   obtain rfl:=Option.some.inj hge
   exact⟨t,by simp⟩
 have hnew:∀ (k:Nat) a b,(leE E1++[x.le])[k]?=some a→(leE E1++[x.le])[k+1]?=some b→a.ho=0→(∀ (k:Nat) a b,(leE E1)[k]?=some a→(leE E1)[k+1]?=some b→a.ho=0→k+1<(leE (E0.take s0.toNat)).length)→k+1<(leE (E0.take s0.toNat)).length:=fun k a b g1 g2 g3 hold=>by
  by_cases hk:k+1<(leE E1).length
  ·rw [List.getElem?_append_left (by omega)]at g1
   rw [List.getElem?_append_left hk]at g2
   exact hold k a b g1 g2 g3
  ·have:=(List.getElem?_eq_some_iff.1 g2).1
   rw [List.length_append,List.length_singleton]at this
   omega
 refine⟨by rw [e];exact .inr hpre2,?_,?_⟩
 ·unfold Dcd at h2 ⊢
  first|(rw [take_add hy];exact h2)|(rw [e];exact fun k a b g1 g2 g3=>hnew k a b g1 g2 g3 h2)
 unfold Dcd at h3 ⊢
 first|(rw [take_add hy];exact h3)|(rw [e];exact fun k a b g1 g2 g3=>hnew k a b g1 g2 g3 h3)
theorem li_cut1{E0 E1:List En}{s0 s1:Int}{n:Nat}(h:LI E0 E1 s0 s1)(hn:s1≤n):LI E0 (E1.take n) s0 (n:Int):=by
 obtain⟨h1,h2,h3⟩:=h
 have hp:=le_pre E1 n
 have hl:(leE (E1.take s1.toNat)).length≤(leE ((E1.take n).take n)).length:=by
  rw [List.take_take,Nat.min_self]
  have:=pre_len (le_pre (E1.take n) s1.toNat)
  rwa [List.take_take,Nat.min_eq_left (by omega)]at this
 refine⟨?_,?_,?_⟩
 ·rcases h1 with h1|h1
  ·first|exact .inl (hp.trans h1)|exact(List.prefix_or_prefix_of_prefix h1 hp)
  first|exact .inr (hp.trans h1)|exact(List.prefix_or_prefix_of_prefix hp h1)
 ·unfold Dcd at h2 ⊢
  first|exact fun k a b g1 g2 g3=>h2 k a b (pre_get hp g1) (pre_get hp g2) g3|exact fun k a b g1 g2 g3=>Nat.lt_of_lt_of_le (h2 k a b g1 g2 g3) (by rw [Int.toNat_natCast];exact hl)
 unfold Dcd at h3 ⊢
 first|exact fun k a b g1 g2 g3=>h3 k a b (pre_get hp g1) (pre_get hp g2) g3|exact fun k a b g1 g2 g3=>Nat.lt_of_lt_of_le (h3 k a b g1 g2 g3) (by rw [Int.toNat_natCast];exact hl)
end Z
namespace Z
structure DR(p q:Pq)(E0 E1 F0 F1:List En):Prop where
 vp:VP q F0 F1
 li:LI F0 F1 q.s0 q.s1
 t0:F0.take q.s0.toNat=E0.take p.s0.toNat
 t1:F1.take q.s1.toNat=E1.take p.s1.toNat
 l0:F0.length≤E0.length+1
 l1:F1.length≤E1.length+1
 kt:q.told.length≤p.told.length+1
 k0:q.k0.length≤p.k0.length+1
 k1:q.k1.length≤p.k1.length+1
theorem addP_0{ok:Bool}{r:Rp}{l:Le}(h:(addP ok r l).2=0):ok=true∧folP r l=true∧r.le.length<256∧(addP ok r l).1=withP r (enL l):=by
 unfold addP at h ⊢
 split at h
 ·rename_i h1
  split at h
  ·rename_i h2
   rw [if_pos h1,if_pos h2]
   simp only [Bool.and_eq_true]at h1
   exact⟨h1.1,h1.2,h2,rfl⟩
  cases h
 cases h
theorem DR.refl{p:Pq}{E0 E1:List En}(hv:VP p E0 E1)(hl:LI E0 E1 p.s0 p.s1):DR p p E0 E1 E0 E1:=⟨hv,hl,rfl,rfl,Nat.le_succ _,Nat.le_succ _,Nat.le_succ _,Nat.le_succ _,Nat.le_succ _⟩
theorem dr_add0{p:Pq}{E0 E1:List En}{x:En}(hv:VP p E0 E1)(hx:VE 0 (E0++[x]))(hl:LI (E0++[x]) E1 p.s0 p.s1):DR p { p with r0:=withP p.r0 x } E0 E1 (E0++[x]) E1:=by
 have hy:=hv.y0
 have hnf:Nf x:=hx.nf x (by simp)
 have e:({ p with r0:=withP p.r0 x }:Pq)={ p with r0:=ofE 0 (E0++[x]) }:=by rw [hv.e0,with_of hnf]
 rw [e]
 refine⟨vp_add0 hv hx,hl,?_,?_,?_,?_,Nat.le_succ _,Nat.le_succ _,Nat.le_succ _⟩
 ·first|exact take_add hy.2|rfl
 ·first|exact take_add hy.2|rfl
 ·first|(rw [List.length_append];exact Nat.le_refl _)|exact Nat.le_succ _
 first|(rw [List.length_append];exact Nat.le_refl _)|exact Nat.le_succ _
theorem dr_lease0{p:Pq}{E0 E1:List En}{l:Le}(hv:VP p E0 E1)(hs:E0.length+1<100000)(hf:folP p.r0 l=true)(hc:p.r0.le.length<256)(hl:LI (E0++[enL l]) E1 p.s0 p.s1):DR p { p with r0:=withP p.r0 (enL l) } E0 E1 (E0++[enL l]) E1:=by
 rw [hv.e0]at hf hc
 refine dr_add0 hv (ve_add hv.v0 rfl hf ?_ hs) hl
 rw [le_add]
 show(leE E0++[l]).length≤256
 rw [List.length_append]
 exact hc
theorem deed0{p:Pq}{E0 E1:List En}(hv:VP p E0 E1)(hl:LI E0 E1 p.s0 p.s1)(b0:E0.length<90000)(b1:E1.length<90000)(bt:p.told.length<90000)(c0:p.k0.length<90000)(c1:p.k1.length<90000)(k a b:Int)(h4:k≠4)(h7:k≠7)(h:(doP0 p E0 k a b).2=0):∃ F0 F1,DR p (doP0 p E0 k a b).1 E0 E1 F0 F1:=by
 have hy:=hv.y0
 unfold doP0 at h ⊢
 rw [if_neg h7]at h ⊢
 by_cases h6:k=6
 ·rw [if_pos h6]at h ⊢
  split at h
  ·rename_i ha
   rw [if_pos ha]
   split at h
   ·rename_i c hc
    split at h
    ·rename_i hs
     rw [if_pos hs]
     refine⟨E0,E1,{ hv with k0:=fun d hd=>?_,z0:=?_ },hl,rfl,rfl,Nat.le_succ _,Nat.le_succ _,Nat.le_succ _,?_,?_⟩
     ·rcases List.mem_append.1 hd with hd|hd
      ·exact hv.k0 d hd
      rw [List.mem_singleton.1 hd];exact hs
     ·show(p.k0++[c]).length<100000
      rw [List.length_append,List.length_singleton];omega
     ·first|(show(p.k0++[c]).length≤p.k0.length+1;rw [List.length_append];exact Nat.le_refl _)|exact Nat.le_succ _
     first|(show(p.k0++[c]).length≤p.k0.length+1;rw [List.length_append];exact Nat.le_refl _)|exact Nat.le_succ _
    cases h
   cases h
  cases h
 rw [if_neg h6]at h ⊢
 by_cases h5:k=5
 ·rw [if_pos h5]at h ⊢
  split at h
  ·rename_i ha
   rw [if_pos ha]
   split at h
   ·rename_i c hc
    split at h
    ·rename_i hs
     rw [if_pos hs]
     refine⟨E0,E1,{ hv with tl:=fun d hd=>?_,zt:=?_ },hl,rfl,rfl,Nat.le_succ _,Nat.le_succ _,?_,Nat.le_succ _,Nat.le_succ _⟩
     ·rcases List.mem_append.1 hd with hd|hd
      ·exact hv.tl d hd
      rw [List.mem_singleton.1 hd];exact .inl hs
     ·show(p.told++[c]).length<100000
      rw [List.length_append,List.length_singleton];omega
     show(p.told++[c]).length≤p.told.length+1
     rw [List.length_append];exact Nat.le_refl _
    cases h
   cases h
  cases h
 rw [if_neg h5]at h ⊢
 rw [if_neg h4]at h ⊢
 have hrs:∀ (x:Rp×Int) (f:Rp→Pq),(rsP x f).2=0→x.2=0∧(rsP x f).1=f x.1:=fun x f hx=>by
  unfold rsP at hx ⊢
  split at hx
  ·rename_i h1;rw [if_pos h1];exact⟨h1,rfl⟩
  rename_i h1;exact absurd hx h1
 by_cases h3:k=3
 ·rw [if_pos h3]at h ⊢
  obtain⟨g1,g2⟩:=hrs _ _ h
  rw [g2]
  unfold callP at g1 ⊢
  split at g1
  ·rename_i hm
   rw [if_pos hm]
   rw [hv.e0]at hm
   exact⟨_,_,dr_add0 (x:=enC ⟨a,b⟩) hv (ve_add hv.v0 rfl hm (by rw [le_add];exact hv.v0.le) (by omega)) (li_call0 hl rfl hy.2)⟩
  cases g1
 rw [if_neg h3]at h ⊢
 have hlast:∃ l,(leE E0).getLast?=some l:=by
  have hne:=ve_ne hv.v0
  have hne:0<(leE E0).length:=List.length_pos_iff.2 hne
  cases hg:(leE E0).getLast? with
  | none=>rw [List.getLast?_eq_none_iff.1 hg]at hne;exact absurd hne (by decide)
  | some l=>exact⟨l,rfl⟩
 obtain⟨z,hz⟩:=hlast
 have hlh:lastHo p.r0=z.ho:=by rw [hv.e0];unfold lastHo;show(match (leE E0).getLast? with|some x=>x.ho|none=>0)=_;rw [hz]
 have hself:p.r0.self=0:=by rw [hv.e0];rfl
 have hrl:p.r0.le=leE E0:=by rw [hv.e0];rfl
 by_cases h2:k=2
 ·rw [if_pos h2]at h ⊢
  split at h
  ·rename_i ha
   rw [if_pos ha]
   split at h
   ·rename_i l hlt
    obtain⟨g1,g2⟩:=hrs _ _ h
    rw [g2]
    unfold lrnP at g1 ⊢
    split at g1
    ·rename_i hcn
     rw [if_pos hcn]
     exact⟨E0,E1,DR.refl hv hl⟩
    rename_i hcn
    rw [if_neg hcn]
    obtain⟨f1,f2,f3,f4⟩:=addP_0 g1
    rw [f4]
    rw [hlh,hself]at f1
    have f1:z.ho≠0:=by simpa using f1
    have hno:l.no=((leE E0).length:Int):=by
     unfold folP at f2
     simp only [Bool.and_eq_true,beq_iff_eq]at f2
     rw [f2.1.1.1.1,hrl]
    have hnm:l∉leE E0:=by
     rw [hrl]at hcn
     simpa using hcn
    have hsy:l∈leE (E1.take p.s1.toNat):=by
     have hm:=List.mem_of_getElem? hlt
     rcases hv.tl l hm with ht|ht
     ·first|exact absurd ((le_pre E0 _).subset (syn_le ht)) hnm|exact syn_le ht
     first|exact absurd ((le_pre E0 _).subset (syn_le ht)) hnm|exact syn_le ht
    exact⟨_,_,dr_lease0 hv (by omega) f2 f3 (li_lrn0 hl hv.v0 hv.v1 rfl hy.2 hno hsy)⟩
   cases h
  cases h
 rw [if_neg h2]at h ⊢
 by_cases h1:k=1
 ·rw [if_pos h1]at h ⊢
  obtain⟨g1,g2⟩:=hrs _ _ h
  rw [g2]
  unfold decP at g1 ⊢
  obtain⟨f1,f2,f3,f4⟩:=addP_0 g1
  rw [f4]
  rw [hlh,hself]at f1
  exact⟨_,_,dr_lease0 hv (by omega) f2 f3 (li_dec0 (z:=en0 0 0) hl hv.v0 hv.v1 rfl hy.2 hz (eq_of_beq f1))⟩
 rw [if_neg h1]at h
 cases h
theorem dr_add1{p:Pq}{E0 E1:List En}{x:En}(hv:VP p E0 E1)(hx:VE 1 (E1++[x]))(hl:LI E0 (E1++[x]) p.s0 p.s1):DR p { p with r1:=withP p.r1 x } E0 E1 E0 (E1++[x]):=by
 have hy:=hv.y1
 have hnf:Nf x:=hx.nf x (by simp)
 have e:({ p with r1:=withP p.r1 x }:Pq)={ p with r1:=ofE 1 (E1++[x]) }:=by rw [hv.e1,with_of hnf]
 rw [e]
 refine⟨vp_add1 hv hx,hl,?_,?_,?_,?_,Nat.le_succ _,Nat.le_succ _,Nat.le_succ _⟩
 ·first|exact take_add hy.2|rfl
 ·first|exact take_add hy.2|rfl
 ·first|(rw [List.length_append];exact Nat.le_refl _)|exact Nat.le_succ _
 first|(rw [List.length_append];exact Nat.le_refl _)|exact Nat.le_succ _
theorem dr_lease1{p:Pq}{E0 E1:List En}{l:Le}(hv:VP p E0 E1)(hs:E1.length+1<100000)(hf:folP p.r1 l=true)(hc:p.r1.le.length<256)(hl:LI E0 (E1++[enL l]) p.s0 p.s1):DR p { p with r1:=withP p.r1 (enL l) } E0 E1 E0 (E1++[enL l]):=by
 rw [hv.e1]at hf hc
 refine dr_add1 hv (ve_add hv.v1 rfl hf ?_ hs) hl
 rw [le_add]
 show(leE E1++[l]).length≤256
 rw [List.length_append]
 exact hc
theorem deed1{p:Pq}{E0 E1:List En}(hv:VP p E0 E1)(hl:LI E0 E1 p.s0 p.s1)(b0:E0.length<90000)(b1:E1.length<90000)(bt:p.told.length<90000)(c0:p.k0.length<90000)(c1:p.k1.length<90000)(k a b:Int)(h4:k≠4)(h7:k≠7)(h:(doP1 p E1 k a b).2=0):∃ F0 F1,DR p (doP1 p E1 k a b).1 E0 E1 F0 F1:=by
 have hy:=hv.y1
 unfold doP1 at h ⊢
 rw [if_neg h7]at h ⊢
 by_cases h6:k=6
 ·rw [if_pos h6]at h ⊢
  split at h
  ·rename_i ha
   rw [if_pos ha]
   split at h
   ·rename_i c hc
    split at h
    ·rename_i hs
     rw [if_pos hs]
     refine⟨E0,E1,{ hv with k1:=fun d hd=>?_,z1:=?_ },hl,rfl,rfl,Nat.le_succ _,Nat.le_succ _,Nat.le_succ _,?_,?_⟩
     ·rcases List.mem_append.1 hd with hd|hd
      ·exact hv.k1 d hd
      rw [List.mem_singleton.1 hd];exact hs
     ·show(p.k1++[c]).length<100000
      rw [List.length_append,List.length_singleton];omega
     ·first|(show(p.k1++[c]).length≤p.k1.length+1;rw [List.length_append];exact Nat.le_refl _)|exact Nat.le_succ _
     first|(show(p.k1++[c]).length≤p.k1.length+1;rw [List.length_append];exact Nat.le_refl _)|exact Nat.le_succ _
    cases h
   cases h
  cases h
 rw [if_neg h6]at h ⊢
 by_cases h5:k=5
 ·rw [if_pos h5]at h ⊢
  split at h
  ·rename_i ha
   rw [if_pos ha]
   split at h
   ·rename_i c hc
    split at h
    ·rename_i hs
     rw [if_pos hs]
     refine⟨E0,E1,{ hv with tl:=fun d hd=>?_,zt:=?_ },hl,rfl,rfl,Nat.le_succ _,Nat.le_succ _,?_,Nat.le_succ _,Nat.le_succ _⟩
     ·rcases List.mem_append.1 hd with hd|hd
      ·exact hv.tl d hd
      rw [List.mem_singleton.1 hd];exact .inr hs
     ·show(p.told++[c]).length<100000
      rw [List.length_append,List.length_singleton];omega
     show(p.told++[c]).length≤p.told.length+1
     rw [List.length_append];exact Nat.le_refl _
    cases h
   cases h
  cases h
 rw [if_neg h5]at h ⊢
 rw [if_neg h4]at h ⊢
 have hrs:∀ (x:Rp×Int) (f:Rp→Pq),(rsP x f).2=0→x.2=0∧(rsP x f).1=f x.1:=fun x f hx=>by
  unfold rsP at hx ⊢
  split at hx
  ·rename_i h1;rw [if_pos h1];exact⟨h1,rfl⟩
  rename_i h1;exact absurd hx h1
 by_cases h3:k=3
 ·rw [if_pos h3]at h ⊢
  obtain⟨g1,g2⟩:=hrs _ _ h
  rw [g2]
  unfold callP at g1 ⊢
  split at g1
  ·rename_i hm
   rw [if_pos hm]
   rw [hv.e1]at hm
   exact⟨_,_,dr_add1 (x:=enC ⟨a,b⟩) hv (ve_add hv.v1 rfl hm (by rw [le_add];exact hv.v1.le) (by omega)) (li_call1 hl rfl hy.2)⟩
  cases g1
 rw [if_neg h3]at h ⊢
 have hlast:∃ l,(leE E1).getLast?=some l:=by
  have hne:=ve_ne hv.v1
  have hne:0<(leE E1).length:=List.length_pos_iff.2 hne
  cases hg:(leE E1).getLast? with
  | none=>rw [List.getLast?_eq_none_iff.1 hg]at hne;exact absurd hne (by decide)
  | some l=>exact⟨l,rfl⟩
 obtain⟨z,hz⟩:=hlast
 have hlh:lastHo p.r1=z.ho:=by rw [hv.e1];unfold lastHo;show(match (leE E1).getLast? with|some x=>x.ho|none=>0)=_;rw [hz]
 have hself:p.r1.self=1:=by rw [hv.e1];rfl
 have hrl:p.r1.le=leE E1:=by rw [hv.e1];rfl
 by_cases h2:k=2
 ·rw [if_pos h2]at h ⊢
  split at h
  ·rename_i ha
   rw [if_pos ha]
   split at h
   ·rename_i l hlt
    obtain⟨g1,g2⟩:=hrs _ _ h
    rw [g2]
    unfold lrnP at g1 ⊢
    split at g1
    ·rename_i hcn
     rw [if_pos hcn]
     exact⟨E0,E1,DR.refl hv hl⟩
    rename_i hcn
    rw [if_neg hcn]
    obtain⟨f1,f2,f3,f4⟩:=addP_0 g1
    rw [f4]
    rw [hlh,hself]at f1
    have f1:z.ho≠1:=by simpa using f1
    have hno:l.no=((leE E1).length:Int):=by
     unfold folP at f2
     simp only [Bool.and_eq_true,beq_iff_eq]at f2
     rw [f2.1.1.1.1,hrl]
    have hnm:l∉leE E1:=by
     rw [hrl]at hcn
     simpa using hcn
    have hsy:l∈leE (E0.take p.s0.toNat):=by
     have hm:=List.mem_of_getElem? hlt
     rcases hv.tl l hm with ht|ht
     ·first|exact absurd ((le_pre E1 _).subset (syn_le ht)) hnm|exact syn_le ht
     first|exact absurd ((le_pre E1 _).subset (syn_le ht)) hnm|exact syn_le ht
    exact⟨_,_,dr_lease1 hv (by omega) f2 f3 (li_lrn1 hl hv.v0 hv.v1 rfl hy.2 hno hsy)⟩
   cases h
  cases h
 rw [if_neg h2]at h ⊢
 by_cases h1:k=1
 ·rw [if_pos h1]at h ⊢
  obtain⟨g1,g2⟩:=hrs _ _ h
  rw [g2]
  unfold decP at g1 ⊢
  obtain⟨f1,f2,f3,f4⟩:=addP_0 g1
  rw [f4]
  rw [hlh,hself]at f1
  exact⟨_,_,dr_lease1 hv (by omega) f2 f3 (li_dec1 (z:=en0 0 0) hl hv.v0 hv.v1 rfl hy.2 hz (eq_of_beq f1))⟩
 rw [if_neg h1]at h
 cases h
theorem deed_ok{p:Pq}{E0 E1:List En}(hv:VP p E0 E1)(hl:LI E0 E1 p.s0 p.s1)(b0:E0.length<90000)(b1:E1.length<90000)(bt:p.told.length<90000)(c0:p.k0.length<90000)(c1:p.k1.length<90000)(k u a b:Int)(hk:¬ (u=0∨u=1)∨(k≠4∧k≠7)):∃ F0 F1,DR p (if(doP p E0 E1 k u a b).2=0 then(doP p E0 E1 k u a b).1 else p) E0 E1 F0 F1:=by
 by_cases h:(doP p E0 E1 k u a b).2=0
 ·rw [if_pos h]
  unfold doP at h ⊢
  by_cases h0:u=0
  ·rw [if_pos h0]at h ⊢
   have hk:=hk.resolve_left fun h=>h (.inl h0)
   exact deed0 hv hl b0 b1 bt c0 c1 k a b hk.1 hk.2 h
  rw [if_neg h0]at h ⊢
  by_cases h1:u=1
  ·rw [if_pos h1]at h ⊢
   have hk:=hk.resolve_left fun h=>h (.inr h1)
   exact deed1 hv hl b0 b1 bt c0 c1 k a b hk.1 hk.2 h
  rw [if_neg h1]at h
  cases h
 rw [if_neg h]
 exact⟨E0,E1,DR.refl hv hl⟩
structure StgE(s:Sg)(E0 E1:List En)(K t:Nat):Prop where
 si:SI s E0 E1 K
 li:LI E0 E1 s.p.s0 s.p.s1
 l0:E0.length≤t+1
 l1:E1.length≤t+1
 k:K≤t+1
 kt:s.p.told.length≤t
 k0:s.p.k0.length≤t
 k1:s.p.k1.length≤t
def Stg(s:Sg)(t:Nat):Prop:=∃ E0 E1 K,StgE s E0 E1 K t
theorem step_inv{s s':Sg}{E0 E1:List En}{K t:Nat}(h:StgE s E0 E1 K t)(ht:t<60)(hr:StepR s E0 E1 K s'):Stg s' (t+1):=by
 have hs:=h.si
 have l0:=h.l0
 have l1:=h.l1
 have hk:=h.k
 have kt:=h.kt
 have k0:=h.k0
 have k1:=h.k1
 cases hr with
 | deed k u a b hc =>
  obtain⟨F0,F1,hd⟩:=deed_ok hs.vp h.li (by omega) (by omega) (by omega) (by omega) (by omega) k u a b hc
  have q1:=hd.l0
  have q2:=hd.l1
  have q3:=hd.kt
  have q4:=hd.k0
  have q5:=hd.k1
  obtain⟨gs,g1,g2⟩:=hs.g0
  obtain⟨gs1,g3,g4⟩:=hs.g1
  exact⟨F0,F1,K,⟨hd.vp,⟨gs,g1,by rw [g2];exact congrArg recsE hd.t0.symm⟩,⟨gs1,g3,by rw [g4];exact congrArg recsE hd.t1.symm⟩,by omega,by omega,hs.k⟩,hd.li,by omega,by omega,by omega,Nat.le_trans q3 (by omega),Nat.le_trans q4 (by omega),Nat.le_trans q5 (by omega)⟩
 | cut0 n d' gs' h1 h2 hd hg =>
  obtain⟨gs1,g3,g4⟩:=hs.g1
  refine⟨E0.take n,E1,K+1,⟨vp_cr0 hs.vp h1 h2,⟨gs',hd,?_⟩,⟨gs1,⟨g3.pe,g3.ds.mono (Nat.le_succ _)⟩,g4⟩,by rw [List.length_take];omega,by omega,by omega⟩,li_cut0 h.li h1,by rw [List.length_take];omega,by omega,by omega,Nat.le_succ_of_le kt,Nat.le_succ_of_le k0,Nat.le_succ_of_le k1⟩
  rw [hg]
  show _=recsE ((E0.take n).take ((n:Int)).toNat)
  rw [Int.toNat_natCast,List.take_take,Nat.min_self]
 | cut1 n d' gs' h1 h2 hd hg =>
  obtain⟨gs1,g3,g4⟩:=hs.g0
  refine⟨E0,E1.take n,K+1,⟨vp_cr1 hs.vp h1 h2,⟨gs1,⟨g3.pe,g3.ds.mono (Nat.le_succ _)⟩,g4⟩,⟨gs',hd,?_⟩,by omega,by rw [List.length_take];omega,by omega⟩,li_cut1 h.li h1,by omega,by rw [List.length_take];omega,by omega,Nat.le_succ_of_le kt,Nat.le_succ_of_le k0,Nat.le_succ_of_le k1⟩
  rw [hg]
  show _=recsE ((E1.take n).take ((n:Int)).toNat)
  rw [Int.toNat_natCast,List.take_take,Nat.min_self]
theorem nv_of{s:Sg}{t:Nat}(h:Stg s t):CallSd PP 8 (.p 0 0 0::[]) (hpOf 1 [0] [.arr true 45 1 [dSg s]]) (.ret (bv true)) (hpOf 1 [0] [.arr true 45 1 [dSg s]]):=by
 obtain⟨E0,E1,K,h⟩:=h
 have hvp:=h.si.vp
 have e0:s.p.r0.ca=caE E0:=by rw [hvp.e0];rfl
 have e1:s.p.r1.ca=caE E1:=by rw [hvp.e1];rfl
 have m0:∀ c∈s.p.k0,c∈caE E0:=fun c hc=>(ca_pre E0 _).subset (syn_ca (hvp.k0 c hc))
 have m1:∀ c∈s.p.k1,c∈caE E1:=fun c hc=>(ca_pre E1 _).subset (syn_ca (hvp.k1 c hc))
 have hsep:=sep_ok hvp.v0 hvp.v1 h.li.cmp
 refine nv_ok s E0 E1 K h.si (fun c hc d hd he=>?_) (by rw [e0,e1];exact hsep)
 rcases List.mem_append.1 hc with hc|hc<;>rcases List.mem_append.1 hd with hd|hd
 ·exact ve_one hvp.v0 c (m0 c hc) d (m0 d hd) he
 ·exact absurd he (hsep c (m0 c hc) d (m1 d hd))
 ·exact absurd he.symm (hsep d (m0 d hd) c (m1 c hc))
 exact ve_one hvp.v1 c (m1 c hc) d (m1 d hd) he
theorem stg0{s:Sg}{h u:Int}(hs:SI s [en0 h u] [en0 h u] 1)(hp:s.p=p00 h u):Stg s 0:=by
 refine⟨_,_,1,hs,⟨.inl List.prefix_rfl,fun k a b g1 g2=>?_,fun k a b g1 g2=>?_⟩,Nat.le_refl _,Nat.le_refl _,Nat.le_refl _,by rw [hp];exact Nat.le_refl _,by rw [hp];exact Nat.le_refl _,by rw [hp];exact Nat.le_refl _⟩
 ·have:=(List.getElem?_eq_some_iff.1 g2).1
  exact absurd this (by show ¬ k+1<1;omega)
 ·have:=(List.getElem?_eq_some_iff.1 g2).1
  exact absurd this (by show ¬ k+1<1;omega)
end Z
namespace Z
abbrev kSp:SK0:=.row [.i .i64,.i .i64,.i .i64,.i .i64,.i .u8]
def rwTp:List CRow:=[⟨4,[kI,kI],.tup [kPq,kI]⟩,⟨5,[kI],.tup [kDi,kI]⟩,⟨6,[kRp],.one kI⟩,⟨7,[kI,kI],.tup [kSg,kB]⟩]
noncomputable def bTp:Caller:=consB PP [⟨9,0,45,kSg,[kSp],.one kB,false⟩,⟨8,0,45,kSg,[],.one kB,true⟩] (cons PP rwTp)
def gTp:LCfg:=⟨92,3,3,⟨[(11,.fix (.p 2 0 0)),(78,.el (.one (.sl 52))),(79,sI),(80,sI)],[(2,.each 45 1 [.el kSg])]⟩,[(.exit 0,⟨[],[]⟩)]⟩
noncomputable def cTp:Cf:={ cff (fun _=>12) [4,5,6,7] [] [8,9] [⟨3,0,11,(3,0),gTp⟩] []with base:=bTp }
noncomputable def eTp:LId→LSt→M Rd1:=fun id L=>gTp.round PP (kitF PP cTp (callT PP cTp []) yh0 3) (lcode 3 0) L
theorem t_tp(h u:Int)(l:List D):callR cTp [3] 3 [iv h,iv u,sl 52 l]=(M.call 4 [iv (0:Int),iv (1:Int)] [] fun d0 o0=>M.call 5 [iv (1:Int)] [] fun d1 o1=>M.br (D.int (List.getD (D.parts d0) 1 D.any) != (0:Int)) (M.pure (Rs.ret (bk false))) (M.br (D.int (List.getD (D.parts d1) 1 D.any) != (0:Int)) (M.pure (Rs.ret (bk false))) (M.br (nI (List.length (D.items (D.cell (List.getD (D.parts d1) 0 D.any) 0))) != (1:Int)) (M.pure (Rs.ret (bk false))) (M.call 6 [D.agg [iv (D.int (D.cell (List.getD (D.parts d0) 0 D.any) 4)),D.sl false 64 (D.items (D.cell (List.getD (D.parts d0) 0 D.any) 5)) Tok.non,D.sl false 66 (D.items (D.cell (List.getD (D.parts d0) 0 D.any) 6)) Tok.non,D.sl false 4 (D.items (D.cell (List.getD (D.parts d0) 0 D.any) 7)) Tok.non]] [] fun d2 o2=>M.br (D.int d2 != (0:Int)) (M.pure (Rs.ret (bk false))) (M.call 6 [D.agg [iv (0:Int),D.sl false 64 [] Tok.non,D.sl false 66 [] Tok.non,D.sl false 4 [] Tok.non]] [] fun d3 o3=>M.br (D.int d3 == (0:Int)) (M.pure (Rs.ret (bk false))) (M.br (decide (nI (List.length l)>(24:Int))) (M.pure (Rs.ret (bk true))) (M.br (decide (h<(0:Int))) (M.pure (Rs.ret (bk true))) (M.br (decide (h>(1:Int))) (M.pure (Rs.ret (bk true))) (M.br (decide (u<(1:Int))) (M.pure (Rs.ret (bk true))) (M.br (decide (u>(4096:Int))) (M.pure (Rs.ret (bk true))) (M.call 7 [iv h,iv u] [] fun d4 o4=>M.br (!D.bool (List.getD (D.parts d4) 1 D.any)) (M.pure (Rs.ret (bk false))) (M.call 8 [D.p 0 0 0] [(45,D.agg [iv (D.int (D.cell (List.getD (D.parts d4) 0 D.any) 0)),D.sl false 64 (D.items (D.cell (List.getD (D.parts d4) 0 D.any) 1)) Tok.non,D.sl false 66 (D.items (D.cell (List.getD (D.parts d4) 0 D.any) 2)) Tok.non,D.sl false 4 (D.items (D.cell (List.getD (D.parts d4) 0 D.any) 3)) Tok.non,iv (D.int (D.cell (List.getD (D.parts d4) 0 D.any) 4)),D.sl false 64 (D.items (D.cell (List.getD (D.parts d4) 0 D.any) 5)) Tok.non,D.sl false 66 (D.items (D.cell (List.getD (D.parts d4) 0 D.any) 6)) Tok.non,D.sl false 4 (D.items (D.cell (List.getD (D.parts d4) 0 D.any) 7)) Tok.non,iv (D.int (D.cell (List.getD (D.parts d4) 0 D.any) 8)),iv (D.int (D.cell (List.getD (D.parts d4) 0 D.any) 9)),D.sl false 64 (D.items (D.cell (List.getD (D.parts d4) 0 D.any) 10)) Tok.non,D.sl false 66 (D.items (D.cell (List.getD (D.parts d4) 0 D.any) 11)) Tok.non,D.sl false 66 (D.items (D.cell (List.getD (D.parts d4) 0 D.any) 12)) Tok.non,D.sl false 57 (D.items (D.cell (List.getD (D.parts d4) 0 D.any) 13)) Tok.non,D.sl false 164 (D.items (D.cell (List.getD (D.parts d4) 0 D.any) 14)) Tok.non,iv (D.int (D.cell (List.getD (D.parts d4) 0 D.any) 15)),bv (D.bool (D.cell (List.getD (D.parts d4) 0 D.any) 16)),D.sl false 57 (D.items (D.cell (List.getD (D.parts d4) 0 D.any) 17)) Tok.non,D.sl false 164 (D.items (D.cell (List.getD (D.parts d4) 0 D.any) 18)) Tok.non,iv (D.int (D.cell (List.getD (D.parts d4) 0 D.any) 19)),bv (D.bool (D.cell (List.getD (D.parts d4) 0 D.any) 20))])] fun d5 o5=>M.br (!D.bool d5) (M.pure (Rs.ret (bk false))) (M.loop (3,0) (ls [D.p 2 0 0,sl 52 l,iv (nI (List.length l)),iv (0:Int)] [Blk.arr true 45 1 [D.agg [iv (D.int (D.cell (List.getD (D.parts d4) 0 D.any) 0)),D.sl false 64 (D.items (D.cell (List.getD (D.parts d4) 0 D.any) 1)) Tok.non,D.sl false 66 (D.items (D.cell (List.getD (D.parts d4) 0 D.any) 2)) Tok.non,D.sl false 4 (D.items (D.cell (List.getD (D.parts d4) 0 D.any) 3)) Tok.non,iv (D.int (D.cell (List.getD (D.parts d4) 0 D.any) 4)),D.sl false 64 (D.items (D.cell (List.getD (D.parts d4) 0 D.any) 5)) Tok.non,D.sl false 66 (D.items (D.cell (List.getD (D.parts d4) 0 D.any) 6)) Tok.non,D.sl false 4 (D.items (D.cell (List.getD (D.parts d4) 0 D.any) 7)) Tok.non,iv (D.int (D.cell (List.getD (D.parts d4) 0 D.any) 8)),iv (D.int (D.cell (List.getD (D.parts d4) 0 D.any) 9)),D.sl false 64 (D.items (D.cell (List.getD (D.parts d4) 0 D.any) 10)) Tok.non,D.sl false 66 (D.items (D.cell (List.getD (D.parts d4) 0 D.any) 11)) Tok.non,D.sl false 66 (D.items (D.cell (List.getD (D.parts d4) 0 D.any) 12)) Tok.non,D.sl false 57 (D.items (D.cell (List.getD (D.parts d4) 0 D.any) 13)) Tok.non,D.sl false 164 (D.items (D.cell (List.getD (D.parts d4) 0 D.any) 14)) Tok.non,iv (D.int (D.cell (List.getD (D.parts d4) 0 D.any) 15)),bv (D.bool (D.cell (List.getD (D.parts d4) 0 D.any) 16)),D.sl false 57 (D.items (D.cell (List.getD (D.parts d4) 0 D.any) 17)) Tok.non,D.sl false 164 (D.items (D.cell (List.getD (D.parts d4) 0 D.any) 18)) Tok.non,iv (D.int (D.cell (List.getD (D.parts d4) 0 D.any) 19)),bv (D.bool (D.cell (List.getD (D.parts d4) 0 D.any) 20))]]]) (fun L6=>M.pure (Rs.ret (bk true))) (fun L6=>M.bad 154) fun L6=>M.bad 154))))))))))))):=by kernel_rfl
theorem rd_tp(s:Sg)(l:List D)(n i:Int):eTp (3,0) ⟨[.p 2 0 0,sl 52 l,iv n,iv i],[.arr true 45 1 [dSg s]],[]⟩=(M.br (decide (i<n)) (M.get l i fun d0=>M.call 9 [D.p 0 0 0,D.agg [iv (D.int (D.cell d0 0)),iv (D.int (D.cell d0 1)),iv (D.int (D.cell d0 2)),iv (D.int (D.cell d0 3)),D.v (Value.int IntKind.u8 (D.int (D.cell d0 4)))]] [(45,dSg s)] fun d1 o1=>M.br (!D.bool d1) (M.bad 151) (M.call 8 [D.p 0 0 0] [(45,D.agg [iv (D.int (D.cell (List.getD o1 0 D.any) 0)),sl 64 (D.items (D.cell (List.getD o1 0 D.any) 1)),sl 66 (D.items (D.cell (List.getD o1 0 D.any) 2)),sl 4 (D.items (D.cell (List.getD o1 0 D.any) 3)),iv (D.int (D.cell (List.getD o1 0 D.any) 4)),sl 64 (D.items (D.cell (List.getD o1 0 D.any) 5)),sl 66 (D.items (D.cell (List.getD o1 0 D.any) 6)),sl 4 (D.items (D.cell (List.getD o1 0 D.any) 7)),iv (D.int (D.cell (List.getD o1 0 D.any) 8)),iv (D.int (D.cell (List.getD o1 0 D.any) 9)),sl 64 (D.items (D.cell (List.getD o1 0 D.any) 10)),sl 66 (D.items (D.cell (List.getD o1 0 D.any) 11)),sl 66 (D.items (D.cell (List.getD o1 0 D.any) 12)),sl 57 (D.items (D.cell (List.getD o1 0 D.any) 13)),sl 164 (D.items (D.cell (List.getD o1 0 D.any) 14)),iv (D.int (D.cell (List.getD o1 0 D.any) 15)),bv (D.bool (D.cell (List.getD o1 0 D.any) 16)),sl 57 (D.items (D.cell (List.getD o1 0 D.any) 17)),sl 164 (D.items (D.cell (List.getD o1 0 D.any) 18)),iv (D.int (D.cell (List.getD o1 0 D.any) 19)),bv (D.bool (D.cell (List.getD o1 0 D.any) 20))])] fun d2 o2=>M.br (!D.bool d2) (M.bad 151) (M.pure (none,(ls [D.p 2 0 0,sl 52 l,iv n,iv (w64 (i+(1:Int)))] [Blk.arr true 45 1 [D.agg [iv (D.int (D.cell (List.getD o1 0 D.any) 0)),sl 64 (D.items (D.cell (List.getD o1 0 D.any) 1)),sl 66 (D.items (D.cell (List.getD o1 0 D.any) 2)),sl 4 (D.items (D.cell (List.getD o1 0 D.any) 3)),iv (D.int (D.cell (List.getD o1 0 D.any) 4)),sl 64 (D.items (D.cell (List.getD o1 0 D.any) 5)),sl 66 (D.items (D.cell (List.getD o1 0 D.any) 6)),sl 4 (D.items (D.cell (List.getD o1 0 D.any) 7)),iv (D.int (D.cell (List.getD o1 0 D.any) 8)),iv (D.int (D.cell (List.getD o1 0 D.any) 9)),sl 64 (D.items (D.cell (List.getD o1 0 D.any) 10)),sl 66 (D.items (D.cell (List.getD o1 0 D.any) 11)),sl 66 (D.items (D.cell (List.getD o1 0 D.any) 12)),sl 57 (D.items (D.cell (List.getD o1 0 D.any) 13)),sl 164 (D.items (D.cell (List.getD o1 0 D.any) 14)),iv (D.int (D.cell (List.getD o1 0 D.any) 15)),bv (D.bool (D.cell (List.getD o1 0 D.any) 16)),sl 57 (D.items (D.cell (List.getD o1 0 D.any) 17)),sl 164 (D.items (D.cell (List.getD o1 0 D.any) 18)),iv (D.int (D.cell (List.getD o1 0 D.any) 19)),bv (D.bool (D.cell (List.getD o1 0 D.any) 20))]]]))))) (M.pure (some 0,(ls [] [])))):=by kernel_rfl
theorem t_chkz  : callR cChk [6,13,26,12] 6 [dRp zR]=(M.br true (M.br false (M.pure (Rs.ret (ik (530:Int)))) (M.br true (M.pure (Rs.ret (ik (530:Int)))) (M.br false (M.pure (Rs.ret (ik (530:Int)))) (M.br false (M.pure (Rs.ret (ik (530:Int)))) (M.loop (26,0) (ls [D.y 6,D.p 4 0 0,D.sl false 64 [] Tok.non,D.sl false 66 [] Tok.non,D.sl false 4 [] Tok.non,iv (nI 0),iv (0:Int)] [Blk.arr true 27 1 [D.agg [iv (0:Int),D.sl false 64 [] Tok.non,D.sl false 66 [] Tok.non,D.sl false 4 [] Tok.non]],b1 33 (iv (0:Int)),Blk.arr true 27 1 [D.agg [iv (0:Int),D.sl false 64 [] Tok.non,D.sl false 66 [] Tok.non,D.sl false 4 [] Tok.non]],b1 3 (iv (0:Int)),Blk.arr true 27 1 [D.agg [iv (0:Int),D.sl false 64 [] Tok.non,D.sl false 66 [] Tok.non,D.sl false 4 [] Tok.non]],Blk.mk,Blk.rc 6 [D.p 0 0 0,D.p 1 0 0,D.p 2 0 0,D.p 3 0 0] LoopState.ready PE.non]) (fun L0=>M.br (D.int (vb L0 3) != nI (List.length (D.items (D.cell (vb L0 0) 3)))) (M.pure (Rs.ret (ik (530:Int)))) (M.get (D.items (D.cell (vb L0 0) 3)) (0:Int) fun d1=>M.br (!D.bool d1) (M.pure (Rs.ret (ik (530:Int)))) (M.pure (Rs.ret (ik (0:Int)))))) (fun L0=>M.br (D.int (vb L0 3) != nI (List.length (D.items (D.cell (vb L0 0) 3)))) (M.pure (Rs.ret (ik (530:Int)))) (M.get (D.items (D.cell (vb L0 0) 3)) (0:Int) fun d1=>M.br (!D.bool d1) (M.pure (Rs.ret (ik (530:Int)))) (M.pure (Rs.ret (ik (0:Int)))))) fun L0=>M.pure (Rs.ret (iv (D.int (vb L0 1))))))))) (M.pure (Rs.ret (ik (530:Int))))):=by kernel_rfl
theorem chkz_ok(h:Heap):CallSd PP 6 [dRp zR] h (.ret (iv 530)) h:=by
 refine con_of (E:=eChk) (Γ:=consΓ [conFol,conMay,conWith]) (C:=cChk) (l:=[6,13,26,12]) (.one kI) (show CallOk PP eChk (consΓ [conFol,conMay,conWith]) cChk.base from cons_ok rfl) named_chk rfl rfl rfl (to_wp ?_) h
 rw [t_chkz]
 exact⟨fun _=>⟨(fun q=>nomatch q),fun _=>⟨fun _=>⟨_,_,rfl,rfl,rfl⟩,fun q=>nomatch q⟩⟩,fun q=>nomatch q⟩
def conChk2:Con PP:=⟨6,[kRp],.one kI,fun args d=>(∃ s E,VE s E∧args=[dRp (ofE s E)]∧d=iv 0)∨(args=[dRp zR]∧d=iv 530),fun args d hr h=>by
 rcases hr with ⟨s,E,hv,rfl,rfl⟩|⟨rfl,rfl⟩
 ·exact chk_ok s E hv h
 exact chkz_ok h⟩
def conBeg:Con PP:=⟨7,[kI,kI],.tup [kSg,kB],fun args d=>∀ H,CallSd PP 7 args H (.ret (etaR (.tup [kSg,kB]) d)) H,fun args d hr h=>hr h⟩
structure St5 where
 k:Int
 u:Int
 a:Int
 b:Int
 w:Int
def dS5(x:St5):D:=dSt5 (iv x.k) (iv x.u) (iv x.a) (iv x.b) (u8 x.w)
abbrev conTp:List (Con PP):=[conStart,conNw,conChk2,conBeg]
abbrev gTpC:Cn:=consΓB [conStep,conNev] (consΓ conTp)
theorem bTp_ok{E:LId→LSt→M Rd1}:CallOk PP E gTpC cTp.base:=show CallOk PP E gTpC bTp from consB_ok (m:=rwTp) (mb:=[⟨9,0,45,kSg,[kSp],.one kB,false⟩,⟨8,0,45,kSg,[],.one kB,true⟩]) (l:=conTp) (lb:=[conStep,conNev]) rfl rfl
theorem tp_lp(l:List St5)(hl:l.length≤24)(hw:∀ x∈l,0≤x.w∧x.w≤255)(s:Sg)(hs:Stg s 0):Lp eTp gTpC (3,0) ⟨[.p 2 0 0,sl 52 (l.map dS5),iv l.length,iv 0],[.arr true 45 1 [dSg s]],[]⟩ 0 ⟨[],[],[]⟩:=by
 have hlp:∃ j L,Lp eTp gTpC (3,0) ⟨[.p 2 0 0,sl 52 (l.map dS5),iv l.length,iv (((0:Nat)):Int)],[.arr true 45 1 [dSg s]],[]⟩ j L∧j=0∧L=⟨[],[],[]⟩:=by
  refine lp_up (σ:=Sg) (fun i s=>⟨[.p 2 0 0,sl 52 (l.map dS5),iv l.length,iv ((i:Nat):Int)],[.arr true 45 1 [dSg s]],[]⟩) l.length (fun i s=>Stg s i) _ (fun i s hi hI=>?_) (fun s _=>?_) (s:=s) hs
  ·rw [rd_tp]
   have hx:=List.getElem?_eq_getElem hi
   generalize l[i]'hi=x at hx
   obtain⟨w0,w1⟩:=hw x (List.mem_of_getElem? hx)
   have hg:(l.map dS5)[((i:Nat):Int).toNat]?=some (dS5 x):=by
    rw [Int.toNat_natCast,List.getElem?_map,hx];rfl
   obtain⟨E0,E1,K,hE⟩:=hI
   obtain⟨s',hr,hcall⟩:=st_ex s E0 E1 K hE.si x.k x.u x.a x.b x.w w0 w1
   have hI':=step_inv hE (by omega) hr
   have hnv:=nv_of hI'
   refine⟨fun _=>⟨by omega,_,hg,bv true,[dSg s'],.inr ⟨conStep,rfl,_,dSg s,bv true,dSg s',rfl,rfl,hcall,rfl⟩,(fun q=>nomatch q),fun _=>⟨bv true,[dSg s'],.inr ⟨conNev,rfl,_,dSg s',bv true,dSg s',rfl,rfl,⟨hnv,rfl⟩,rfl⟩,(fun q=>nomatch q),fun _=>.inl ⟨s',?_,hI'⟩⟩⟩,fun h=>absurd (of_decide_eq_false h) (by omega)⟩
   rw [w64_id (by omega) (by omega)]
   rfl
  rw [rd_tp]
  exact⟨fun h=>absurd (of_decide_eq_true h) (by omega),fun _=>⟨0,_,rfl,rfl,rfl⟩⟩
 obtain⟨_,_,g1,rfl,rfl⟩:=hlp
 exact g1
theorem tp_ok(h u:Int)(l:List St5)(hw:∀ x∈l,0≤x.w∧x.w≤255)(H:Heap):CallSd PP 3 [iv h,iv u,sl 52 (l.map dS5)] H (.ret (bv true)) H:=by
 refine con_of (E:=eTp) (Γ:=gTpC) (C:=cTp) (l:=[3]) (.one kB) bTp_ok (named_loop (id0:=(3,0)) (by kernel_rfl) (by kernel_rfl) (by kernel_rfl) (fun s=>by kernel_rfl) (fun L=>rfl) (NamedT.nil (P:=PP))) rfl rfl rfl (to_wp ?_) H
 rw [t_tp]
 have hlen:nI (l.map dS5).length=(l.length:Int):=by rw [List.length_map]
 rw [hlen]
 have hT:∀ {E:LId→LSt→M Rd1} {Γ:Cn},Wp E Γ (M.pure (Rs.ret (bk true))) (Res (.one kB) (bv true)):=⟨_,_,rfl,rfl,rfl⟩
 refine⟨.tup [dPq (p00 0 1),iv 0],[],.inl ⟨rfl,conStart,rfl,_,⟨0,1,by decide,by decide,by decide,by decide,rfl,rfl⟩,rfl⟩,.tup [dDi (newD 1),iv 0],[],.inl ⟨rfl,conNw,rfl,_,⟨1,.inl rfl,rfl,rfl⟩,rfl⟩,(fun q=>nomatch q),fun _=>⟨(fun q=>nomatch q),fun _=>⟨(fun q=>nomatch q),fun _=>⟨iv 0,[],.inl ⟨rfl,conChk2,rfl,_,.inl ⟨1,[en0 0 1],ve0 1 0 1 (.inr rfl) (by decide) (by decide) (by decide) (by decide),rfl,rfl⟩,rfl⟩,(fun q=>nomatch q),fun _=>⟨iv 530,[],.inl ⟨rfl,conChk2,rfl,_,.inr ⟨rfl,rfl⟩,rfl⟩,(fun q=>nomatch q),fun _=>⟨fun _=>hT,fun q1=>⟨fun _=>hT,fun q2=>⟨fun _=>hT,fun q3=>⟨fun _=>hT,fun q4=>⟨fun _=>hT,fun q5=>?_⟩⟩⟩⟩⟩⟩⟩⟩⟩⟩
 have q1:=of_decide_eq_false q1
 have q2:=of_decide_eq_false q2
 have q3:=of_decide_eq_false q3
 have q4:=of_decide_eq_false q4
 have q5:=of_decide_eq_false q5
 obtain⟨s,hsi,hp,hv0,hv1,hcall⟩:=bg_ex h u (by omega) (by omega) (by omega) (by omega)
 have hst:=stg0 hsi hp
 have hnv:=nv_of hst
 have hl:=tp_lp l (by omega) hw s hst
 exact⟨.tup [dSg s,bv true],[],.inl ⟨rfl,conBeg,rfl,.tup [dSg s,bv true],hcall,rfl⟩,(fun q=>nomatch q),fun _=>⟨bv true,[dSg s],.inr ⟨conNev,rfl,_,dSg s,bv true,dSg s,rfl,rfl,⟨hnv,rfl⟩,rfl⟩,(fun q=>nomatch q),fun _=>.inl ⟨_,hl,hT⟩⟩⟩
end Z
end Go.Proofs.YtmgcclhbbhbmcaaGreat
namespace Go.Proofs.YtmgcclhbbhbmcaaGreat
set_option maxRecDepth 20000
open Go Go.RowKit Go.ChangeShapes Go.WideShapes Go.ChangeAt
section
variable {H:Type}{enc:TypeId×Value→H}{P:Program}{w:World}{base:Nat}{spare:Nat→Bool}{held:Bool}{fuel:Nat}{t:TypeId}{cs:List Value}
theorem take_at{off:Nat}{v:Value}(h:(cs.drop off).take 1=[v]):cs[off]?=some v:=by
 have:((cs.drop off).take 1)[0]?=some v:=by rw [h];rfl
 simpa [List.getElem?_take,List.getElem?_drop]using this
theorem int_at{off:Nat}(hu:P.underlying t=some (.int .i64)){y:DataW H×List MemPlace}(h:DataW.trod enc P w base spare held fuel t ((cs.drop off).take 1)=some y):∃ n,cs[off]?=some (.int .i64 n):=by
 obtain⟨n,e,_⟩:=DataW.trod_int hu h
 exact⟨n,take_at e⟩
end
namespace Z
def cellsS(x:St5):List Value:=[.int .i64 x.k,.int .i64 x.u,.int .i64 x.a,.int .i64 x.b,.int .u8 x.w]
theorem fl_len:∀ l:List St5,(l.flatMap cellsS).length=l.length*5
 | []=>rfl
 | x::l=>by rw [List.flatMap_cons,List.length_append,fl_len l,List.length_cons];show 5+_=_;omega
theorem fl_get:∀ (l:List St5)(i j:Nat)(c:St5),l[i]?=some c→j<5→(l.flatMap cellsS)[i*5+j]?=(cellsS c)[j]?
 | [],_,_,_,h,_=>by simp at h
 | x::l,0,j,c,h,hj=>by
  obtain rfl:x=c:=by simpa using h
  rw [List.flatMap_cons,Nat.zero_mul,Nat.zero_add,List.getElem?_append_left (by show j<5;exact hj)]
 | x::l,i+1,j,c,h,hj=>by
  rw [List.flatMap_cons,List.getElem?_append_right (by show 5≤_;omega)]
  show(l.flatMap cellsS)[(i+1)*5+j-5]?=_
  rw [show(i+1)*5+j-5=i*5+j by omega]
  exact fl_get l i j c (by simpa using h) hj
section
variable {H:Type}{enc:TypeId×Value→H}{w:World}{base:Nat}{sp:Nat→Bool}{held:Bool}{r:Reach}{b0:Nat}{v:Value}{d:DataW H}{ps:List MemPlace}
theorem deed_cells{n:Nat}{cs:List Value}{y:DataW H×List MemPlace}(hf:DataW.trod enc Tryz.prog w base sp held n 50 cs=some y):∃ a b c d:Int,cs=[.int .i64 a,.int .i64 b,.int .i64 c,.int .i64 d]:=by
 obtain⟨xs,n,_,_,hlen,hl,hx⟩:=DataW.trod_struct Tryz.underlying50 hf
 have hC:Tryz.prog.cellsOf 50=4:=by kernel_rfl
 rw [hC]at hlen
 have hl':xs.length=4:=hl
 have g0:DataW.trod enc Tryz.prog w base sp held n 3 ((cs.drop 0).take 1)=some (xs[0]'(by omega)):=(hx 0 _ rfl).trans (List.getElem?_eq_getElem _)
 obtain⟨v0,e0⟩:=int_at Tryz.underlying3 g0
 have g1:DataW.trod enc Tryz.prog w base sp held n 3 ((cs.drop 1).take 1)=some (xs[1]'(by omega)):=(hx 1 _ rfl).trans (List.getElem?_eq_getElem _)
 obtain⟨v1,e1⟩:=int_at Tryz.underlying3 g1
 have g2:DataW.trod enc Tryz.prog w base sp held n 3 ((cs.drop 2).take 1)=some (xs[2]'(by omega)):=(hx 2 _ rfl).trans (List.getElem?_eq_getElem _)
 obtain⟨v2,e2⟩:=int_at Tryz.underlying3 g2
 have g3:DataW.trod enc Tryz.prog w base sp held n 3 ((cs.drop 3).take 1)=some (xs[3]'(by omega)):=(hx 3 _ rfl).trans (List.getElem?_eq_getElem _)
 obtain⟨v3,e3⟩:=int_at Tryz.underlying3 g3
 refine⟨v0,v1,v2,v3,?_⟩
 apply List.ext_getElem?
 intro i
 by_cases hi:i<4
 ·have hc:i=0∨i=1∨i=2∨i=3:=by omega
  rcases hc with rfl|rfl|rfl|rfl
  ·exact e0
  ·exact e1
  ·exact e2
  exact e3
 rw [List.getElem?_eq_none (by omega),List.getElem?_eq_none (by show 4≤i;omega)]
theorem step_cells{n:Nat}{cs:List Value}{y:DataW H×List MemPlace}(hf:DataW.trod enc Tryz.prog w base sp held n 52 cs=some y):∃ x:St5,(0≤x.w∧x.w≤255)∧cs=cellsS x:=by
 obtain⟨xs,n,_,_,hlen,hl,hx⟩:=DataW.trod_struct Tryz.underlying52 hf
 have hC:Tryz.prog.cellsOf 52=5:=by kernel_rfl
 rw [hC]at hlen
 have hl':xs.length=2:=hl
 have g0:DataW.trod enc Tryz.prog w base sp held n 50 ((cs.drop 0).take 4)=some (xs[0]'(by omega)):=(hx 0 _ rfl).trans (List.getElem?_eq_getElem _)
 obtain⟨a,b,c,d,e0⟩:=deed_cells g0
 have g1:DataW.trod enc Tryz.prog w base sp held n 5 ((cs.drop 4).take 1)=some (xs[1]'(by omega)):=(hx 1 _ rfl).trans (List.getElem?_eq_getElem _)
 obtain⟨k,e1,_,hw⟩:=DataW.trod_int Tryz.underlying5 g1
 have h:(decide (IntKind.u8.min≤k) && decide (k≤IntKind.u8.max))=true:=hw
 rw [Bool.and_eq_true,decide_eq_true_eq,decide_eq_true_eq]at h
 refine⟨⟨a,b,c,d,k⟩,⟨h.1,h.2⟩,?_⟩
 have h1:cs=cs.take 4++cs.drop 4:=(List.take_append_drop 4 cs).symm
 have h2:cs.drop 4=[.int .u8 k]:=by
  rw [← e1,List.take_of_length_le (by rw [List.length_drop];omega)]
 rw [h1,h2,show cs.take 4=[.int .i64 a,.int .i64 b,.int .i64 c,.int .i64 d] from e0]
 rfl
theorem steps_of(a:Addr):∀ (len:Nat),(∀ i,i<len→∃ c:St5,(0≤c.w∧c.w≤255)∧w.cells? base (a.add (i*5)) 5=some (cellsS c)) →
 ∃ l:List St5,l.length=len∧(∀ c∈l,0≤c.w∧c.w≤255)∧∀ i c,l[i]?=some c→w.cells? base (a.add (i*5)) 5=some (cellsS c)
 | 0,_=>⟨[],rfl,(fun _ h=>nomatch h),by simp⟩
 | len+1,h=>by
  obtain⟨l,hl,hq,hx⟩:=steps_of a len (fun i hi=>h i (by omega))
  obtain⟨c,hqc,hc⟩:=h len (by omega)
  refine⟨l++[c],by simp [hl],fun c' hc'=>?_,fun i c' hc'=>?_⟩
  ·rcases List.mem_append.1 hc' with h1|h1
   ·exact hq c' h1
   obtain rfl:c'=c:=by simpa using h1
   exact hqc
  rw [List.getElem?_append]at hc'
  split at hc'
  ·exact hx i c' hc'
  have:i-l.length=0:=by
   rcases Nat.eq_zero_or_pos (i-l.length)with h0|h0
   ·exact h0
   rw [List.getElem?_eq_none (by simp;omega)]at hc';cases hc'
  rw [this]at hc'
  obtain rfl:c=c':=by simpa using hc'
  obtain rfl:i=len:=by omega
  exact hc
def StAt(w:World)(A:Option Addr)(l:List St5):Prop:=0<l.length→∃ b o,A=some ⟨b,o,none⟩∧∀ (q:Nat) u,(l.flatMap cellsS)[q]?=some u→w.cell? ⟨b,o+q,none⟩=some u
theorem open_steps(hd:DataW.Trod enc Tryz.prog w base sp held 22 v d ps):∃ (A:Option Addr)(n cap:Nat)(l:List St5),v.cells.toList=[.slice A n cap]∧l.length=n∧n≤cap∧StAt w A l∧∀ c∈l,0≤c.w∧c.w≤255:=by
 obtain⟨fuel,hf⟩:=hd
 rcases DataW.trod_slice Tryz.underlying22 hf with ⟨he,_⟩|⟨a,len,cap',elems,rest,m,_,he,_,_,hlc,hcm,hel',hcell,_,_⟩
 ·exact⟨none,0,0,[],he,rfl,Nat.le_refl _,(fun h=>absurd h (by decide)),fun _ h=>nomatch h⟩
 have hC:Tryz.prog.cellsOf 52=5:=by kernel_rfl
 rw [hC]at hcell
 obtain⟨l,hl,hq,hx⟩:=steps_of (w:=w) (base:=base) a len fun i hi=>by
  have h1:=hcell i hi
  rw [List.getElem?_eq_getElem (by omega)]at h1
  cases hq:w.cells? base (a.add (i*5)) 5 with
  | none=>rw [hq]at h1;simp at h1
  | some cs =>
   rw [hq]at h1
   obtain⟨c,hqc,rfl⟩:=step_cells (by simpa using h1)
   exact⟨c,hqc,rfl⟩
 have hall:∀ (q:Nat) u,(l.flatMap cellsS)[q]?=some u→w.cell? (a.add q)=some u:=fun q u hu=>by
  have hq1:q<l.length*5:=by
   have:=(List.getElem?_eq_some_iff.1 hu).1
   rwa [fl_len]at this
  have hd:q / 5<l.length:=by omega
  have hm:q % 5<5:=by omega
  have hc:=List.getElem?_eq_getElem hd
  have hw:=hx _ _ hc
  have hqq:q / 5*5+q % 5=q:=by omega
  rw [← hqq,fl_get l (q / 5) (q % 5) _ hc hm]at hu
  obtain⟨_,_,h5⟩:=World.cells?_some hw
  have h6:=(h5 (q % 5) hm).trans hu
  rw [Addr.add_add,hqq]at h6
  exact h6
 refine⟨some a,len,cap',l,he,hl,by omega,fun h0=>?_,hq⟩
 have h1:(l.flatMap cellsS)[0]?=some (.int .i64 (l[0]'h0).k):=fl_get l 0 0 _ (List.getElem?_eq_getElem h0) (by decide)
 have h2:=hall 0 _ h1
 have hsp:a.spot=none:=by
  cases hsp:a.spot with
  | none=>rfl
  | some k =>
   unfold World.cell? at h2
   have:(a.add 0).spot=some k:=hsp
   rw [this]at h2
   split at h2<;>simp at h2
 refine⟨a.block,a.off,?_,fun q u hu=>?_⟩
 ·cases a;simp only at hsp;subst hsp;rfl
 ·have:=hall q u hu
  cases a;simp only at hsp;subst hsp;rw [add_zero_addr]at this;exact this
theorem v_slice{r:Reach}{b0:Nat}{t e:TypeId}(hu:Tryz.prog.underlying t=some (.slice e))(hval:Value.okWide Tryz.prog w r b0 t v){A:Option Addr}{n cap:Nat}(h:v.cells.toList=[.slice A n cap]):v=.slice A n cap:=by
 obtain⟨A',n',c',rfl⟩:=okWide_slice hu hval
 simpa [Value.cells]using h
end
def tyS:Ty:=⟨true,[.i .i64,.i .i64,.i .i64,.i .i64,.i .u8]⟩
theorem tyS_eq:tyOf PP 52=some tyS:=by kernel_rfl
theorem elS(x:St5):ElOk tyS (dS5 x):=by
 refine⟨⟨_,rfl,rfl⟩,fun j c e h1 h2=>?_,fun e he=>?_⟩
 ·match j,h1,h2 with
  | 0,h1,h2=>cases h1;cases h2;exact⟨_,.inr rfl⟩
  | 1,h1,h2=>cases h1;cases h2;exact⟨_,.inr rfl⟩
  | 2,h1,h2=>cases h1;cases h2;exact⟨_,.inr rfl⟩
  | 3,h1,h2=>cases h1;cases h2;exact⟨_,.inr rfl⟩
  | 4,h1,h2=>cases h1;cases h2;exact⟨_,.inr rfl⟩
  | j+5,h1,h2=>simp [tyS]at h1
 have he:e∈[iv x.k,iv x.u,iv x.a,iv x.b,u8 x.w]:=he
 simp only [List.mem_cons,List.not_mem_nil,or_false]at he
 rcases he with rfl|rfl|rfl|rfl|rfl<;>rfl
theorem cellS(x:St5)(j:Nat)(e:D)(h:(dS5 x).cells[j]?=some e):∃ v,(cellsS x)[j]?=some v∧j<5∧∀ {I:Gh}{α:Al},Den (tyOf PP) I α e v:=by
 match j,h with
 | 0,h=>cases h;exact⟨_,rfl,by decide,.v rfl⟩
 | 1,h=>cases h;exact⟨_,rfl,by decide,.v rfl⟩
 | 2,h=>cases h;exact⟨_,rfl,by decide,.v rfl⟩
 | 3,h=>cases h;exact⟨_,rfl,by decide,.v rfl⟩
 | 4,h=>cases h;exact⟨_,rfl,by decide,.v rfl⟩
 | j+5,h=>simp [dS5,dSt5,D.cells]at h
theorem den_steps(W:World)(A:Option Addr)(l:List St5)(cap:Nat)(hc:l.length≤cap)(hA:StAt W A l):Den (tyOf PP) (All W) non (sl 52 (l.map dS5)) (.slice A l.length cap):=by
 have hlen:(l.map dS5).length=l.length:=List.length_map ..
 have key:Den (tyOf PP) (All W) non (sl 52 (l.map dS5)) (.slice A (l.map dS5).length cap):=by
  refine .sl (by rw [hlen];exact hc) trivial fun hne=>?_
  have h0:0<l.length:=by
   rcases Nat.eq_zero_or_pos l.length with h0|h0
   ·rw [List.length_eq_zero_iff.1 h0]at hne;exact absurd rfl hne
   exact h0
  obtain⟨b,o,rfl,hcell⟩:=hA h0
  refine .mem (fun q=>((l.flatMap cellsS)[q]?).getD undef) tyS_eq (fun d hd=>?_) (fun q hq=>?_) fun i j d e h1 h2=>?_
  ·obtain⟨x,_,rfl⟩:=List.mem_map.1 hd
   exact elS x
  ·rw [hlen]at hq
   have hq:q<(l.flatMap cellsS).length:=by rw [fl_len];exact hq
   show W.cell? _=_
   rw [hcell q _ (List.getElem?_eq_getElem hq),List.getElem?_eq_getElem hq];rfl
  rw [List.getElem?_map]at h1
  obtain⟨x,h3,rfl⟩:=Option.map_eq_some_iff.1 h1
  obtain⟨v,h4,h5,h6⟩:=cellS x j e h2
  show Den _ _ _ e (((l.flatMap cellsS)[i*5+j]?).getD undef)
  rw [fl_get l i j x h3 h5,h4]
  exact h6
 rw [hlen]at key
 exact key
theorem top_any(h u:Int)(l:List St5)(A:Option Addr)(cap:Nat)(W:World)(hc:l.length≤cap)(hA:StAt W A l)(hw:∀ x∈l,0≤x.w∧x.w≤255):Calls Tryz.prog 3 #[.int .i64 h,.int .i64 u,.slice A l.length cap] W fun e W'=>e=.returned (.bool true)∧Below W.heap.size W W':=by
 have hin:HInv PP (tyOf PP) W ⟨[],All W⟩ [] non (All W) W:=⟨⟨rfl,rfl,rfl,Nat.le_refl _,fun _ _ _=>rfl⟩,(fun m r hm=>nomatch hm),(fun m hm=>by simp [at_,Blk.live]at hm),(fun m q r r' _ hm=>by simp [at_,Blk.live]at hm),fun _ _ _ h=>h,fun b q _ _ hg=>hg⟩
 refine Calls.mono (tp_ok h u l hw [] W ⟨[],All W⟩ non (All W) W #[.int .i64 h,.int .i64 u,.slice A l.length cap] hin rfl fun j d x g1 g2=>?_) fun e W' hh=>?_
 ·match j,g1,g2 with
  | 0,g1,g2=>cases g1;cases g2;exact .v rfl
  | 1,g1,g2=>cases g1;cases g2;exact .v rfl
  | 2,g1,g2 =>
   obtain rfl:=Option.some.inj g1
   obtain rfl:Value.slice A l.length cap=x:=Option.some.inj g2
   exact den_steps W A l cap hc hA
  | j+3,g1,g2=>simp at g1
 obtain⟨α',I',_,_,hv,he⟩:=hh
 refine⟨?_,⟨hv.old.os,hv.old.tape,hv.old.output,hv.old.size,fun b hb=>hv.old.block b hb (fun h=>nomatch h)⟩⟩
 cases e with
 | returned v =>
  have he:Den (tyOf PP) I' α' (bv true) v:=he
  cases he with|v h=>rfl
 | panicked c=>exact he.elim
 | _=>exact he.elim
end Z
end Go.Proofs.YtmgcclhbbhbmcaaGreat
namespace Go.Proofs.YtmgcclhbbhbmcaaGreat.topReplicas
open Go Go.ChangeShapes Go.WideShapes Go.ChangeAt Go.RowKit
set_option maxRecDepth 100000 in
theorem lifted(os:Os)(started:os.Started)(H:Type)(enc:TypeId×Value→H) :
 ReturnsInHanded {} Tryz.checked os 3 .any (Rows.topReplicasSpec.pre6 enc Tryz.prog Tryz.f3 Rows.topReplicasRow.domain false) (Rows.topReplicasSpec.post enc Tryz.prog Tryz.f3 false true false false):=by
 refine returnsInHanded_of_change (C:=Tryz.checked) ownK started (by kernel_rfl) Tryz.func3
  (ChangeSpec.witness6 (enc:=enc) (C:=Tryz.checked) false ⟨#[],#[.int .i64 0,.int .i64 0,.slice none 0 0],[]⟩ 8 (by kernel_rfl) (by kernel_rfl) (by kernel_rfl) (by kernel_rfl)) ?_
 intro W base args ds gs before hval0 hW hcnd _
 have hval:∀ (j:Nat) t v,Tryz.f3.params[j]?=some t→args[j]?=some v→Value.okWide Tryz.prog W .any base t v:=hval0
 have hW':=hW
 obtain⟨p,q,hA0,hV,rfl,hfz,hnd⟩:=hW
 have hA:DataW.TrodAll enc Tryz.prog W 0 (fun _=>true) true Tryz.f3.params.toList args.toList ds p:=hA0
 rw [Tryz.params3]at hA hval
 obtain⟨v0,vs0,d0,ds0,p0,q0,hargs,rfl,rfl,h0,r0⟩:=trodAll_cons hA
 obtain⟨v1,vs1,d1,ds1,p1,q1,rfl,rfl,rfl,h1,r1⟩:=trodAll_cons r0
 obtain⟨v2,vs2,d2,ds2,p2,q2,rfl,rfl,rfl,h2,r2⟩:=trodAll_cons r1
 obtain⟨rfl,rfl,rfl⟩:=trodAll_nil r2
 obtain rfl:args=#[v0,v1,v2]:=by cases args;simp_all
 obtain⟨rfl,rfl⟩:=trodVars_none hV
 obtain⟨a0,rfl,rfl,rfl,w0⟩:=open_int Tryz.underlying3 (hval 0 3 v0 rfl rfl) h0
 obtain⟨a1,rfl,rfl,rfl,w1⟩:=open_int Tryz.underlying3 (hval 1 3 v1 rfl rfl) h1
 obtain⟨A2,n2,c2,l2,e2,hl2,hc2,hs2,hw2⟩:=Z.open_steps h2
 obtain rfl:=Z.v_slice Tryz.underlying22 (hval 2 22 v2 rfl rfl) e2
 subst hl2
 clear hA0 hval0
 refine(Z.top_any a0 a1 l2 A2 c2 W hc2 hs2 hw2  ).mono fun e W' ⟨he,hb⟩=>?_
 subst he
 exact⟨_,rfl,law_post laidOut (by kernel_rfl) rfl hW' hb rfl rfl Tryz.underlying4⟩
theorem over:Rows.topReplicasRow.holds Tryz.pinned (OpenSpec.ofChange Rows.topReplicasSpec) :=
 OpenClaim.holds_of_wide 3 Tryz.f3 rfl rfl rfl rfl rfl rfl rfl ⟨rfl,rfl,rfl,rfl,rfl⟩ rfl rfl rfl rfl rfl (by kernel_rfl) Tryz.func3 (by kernel_rfl)
  (of_decide_eq_true (by kernel_rfl)) (by unfold Func.isWrapper;first|(rw [if_pos (by decide +kernel)];kernel_rfl)|(rw [if_neg (by decide +kernel)];exact⟨rfl,rfl⟩))
  (fun os started H enc _=>lifted os started H enc)
theorem proved:Rows.TopReplicasSaid :=
 over
#print axioms proved
end Go.Proofs.YtmgcclhbbhbmcaaGreat.topReplicas
