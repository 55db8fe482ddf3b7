/- Whatever the evaluator says of a call, the machine does, for every order of evaluation and every capacity that append draws (callK_ok, closed_law). No further conditions. -/
import Derived.Test.YtkneccbdfpnnlaaGreatDoorEvB
import Derived.LoopNIn
import Derived.RangeFuncRecord
import Derived.Scope
import Derived.LaidLaws
import Derived.Lib.LaidTab
import Derived.RowKit3
import Derived.Shaped
import Derived.Test.YtkneccbdfpnnlaaGreatDoorEvA
namespace Go.Proofs.YtkneccbdfpnnlaaGreatDoor.Ev
set_option linter.unusedSimpArgs false
set_option linter.unusedVariables false
section
set_option linter.unusedSectionVars false
variable [LoopP]
noncomputable def putT (tm:Ev) (d:Option Nat) (v:V):Ev:=match d with | none=>tm | some d=>upd tm (pathOf d) v
theorem putK_eq (tm:Ev) (d:Option Nat) (v:V) (K:Ev→R):putK tm (d.map pathOf) v K=K (putT tm d v):=by
 cases d <;> rfl
noncomputable def isBo (w:Bool) (v:V):Option Bool:=match v with
 | .any=>none
 | v=>some (isB w v)
noncomputable def wantN (tm:Ev) (g:Option (Nat×Bool)):Option Bool:=match g with
 | none=>some true
 | some g=>isBo g.2 (getD' (tm.get g.1))
theorem isBs_eq (w:Bool) (s:S):isB w (.sc s)=isBs w s:=by
 cases s with
 | bool b=>cases b <;> cases w <;> rfl
 | _=>rfl
theorem guard_done {tm:Ev}{g:Nat×Bool}{a b:R}{x:X}{tf:PM V}{sf:St} (h1:guardK g.2 (tm (pathOf g.1)) a b=.done x tf sf):(wantN tm (some g)=some true∧a=.done x tf sf)∨(wantN tm (some g)=some false∧b=.done x tf sf):=by
 have h2:∀ r,isBo g.2 (tm (pathOf g.1))=r→wantN tm (some g)=r:=fun r h=>h
 cases hv:tm (pathOf g.1) with
 | sc s =>
  rw [hv] at h1 h2
  have h3:iteB (isB g.2 (.sc s)) a b=.done x tf sf:=by rw [isBs_eq];exact h1
  cases hb:isB g.2 (.sc s) with
  | true=>rw [hb,iteB_true] at h3;exact .inl ⟨h2 _ (by show some (isB g.2 (.sc s))=_;rw [hb]),h3⟩
  | false=>rw [hb,iteB_false] at h3;exact .inr ⟨h2 _ (by show some (isB g.2 (.sc s))=_;rw [hb]),h3⟩
 | agg l=>rw [hv] at h1 h2;exact .inr ⟨h2 _ rfl,h1⟩
 | tup l=>rw [hv] at h1 h2;exact .inr ⟨h2 _ rfl,h1⟩
 | any=>rw [hv] at h1;cases h1
theorem gop_done {tm:Ev}{gd:Option (Nat×Bool)}{a:(V→St→R)→R}{st:St}{j:V→St→R}{x:X}{tf:PM V}{sf:St} (h:gop tm (gpath gd) a st j=.done x tf sf):(wantN tm gd=some true∧a j=.done x tf sf)∨(wantN tm gd=some false∧j undefV st=.done x tf sf):=by
 cases gd with
 | none=>exact .inl ⟨rfl,h⟩
 | some g=>exact guard_done (show guardK g.2 (tm (pathOf g.1)) (a j) (j undefV st)=.done x tf sf from h)
theorem gopD_done {tm:Ev}{gd:Option (Nat×Bool)}{a:(V→Mk→St→R)→R}{mk:Mk}{st:St}{j:V→Mk→St→R}{x:X}{tf:PM V}{sf:St} (h:gopD tm (gpath gd) a mk st j=.done x tf sf):(wantN tm gd=some true∧a j=.done x tf sf)∨(wantN tm gd=some false∧j undefV mk st=.done x tf sf):=by
 cases gd with
 | none=>exact .inl ⟨rfl,h⟩
 | some g=>exact guard_done (show guardK g.2 (tm (pathOf g.1)) (a j) (j undefV mk st)=.done x tf sf from h)
theorem putT_get (tm:Ev) (d:Nat) (v:V) (t:Nat):(putT tm (some d) v).get t=if t=d then some v else tm.get t:=by
 show some (upd tm (pathOf d) v (pathOf t))=_
 by_cases h:t=d
 ·subst h;rw [if_pos rfl,upd_same]
 ·rw [if_neg h,upd_other tm v fun e=>h (pathOf_inj e)];rfl
theorem putT_off (tm:Ev) (d:Option Nat) (v:V) {p:Pth} (h:d.map pathOf≠some p):putT tm d v p=tm p:=by
 cases d with
 | none=>rfl
 | some d=>exact upd_other tm v fun e=>h (by rw [e];rfl)
theorem put_size (a:Act) (d:Option Tmp) (v:Value):(a.put d v).tmps.size=a.tmps.size:=by cases d <;> simp [Act.put]
theorem put_defers (a:Act) (d:Option Tmp) (v:Value):(a.put d v).defers=a.defers:=by cases d <;> rfl
theorem relF_put {σ:Map}{tm:Ev}{a:Act}{d:Option Nat}{v:V}{v':Value}{n:Nat} (hf:RelF σ tm a.tmps) (hn:n≤a.tmps.size) (hd:dstOk n d=true) (hv:RelV σ v v'):RelF σ (putT tm d v) (a.put d v').tmps:=by
 cases d with
 | none=>exact hf
 | some d =>
  have hlt:d<n:=blt_of hd
  intro t
  rw [putT_get]
  by_cases ht:t=d
  ·subst ht
   rw [if_pos rfl]
   simp only [Act.put,getD'_some]
   rw [Array.getD_eq_getD_getElem?,Array.getElem?_setIfInBounds_self_of_lt (by omega)]
   exact hv
  ·rw [if_neg ht]
   simp only [Act.put]
   rw [Array.getD_eq_getD_getElem?,Array.getElem?_setIfInBounds_ne (fun h=>ht h.symm),← Array.getD_eq_getD_getElem?]
   exact hf t
def boolIs (w:Bool):Value→Bool
 | .bool b=>decide (b=w)
 | _=>false
theorem relV_bool {σ:Map}{u:V}{v:Value} (h:RelV σ u v) (w:Bool) {b:Bool} (hb:isBo w u=some b):boolIs w v=b:=by
 cases h with
 | agg h=>cases hb;rfl
 | tup h=>cases hb;rfl
 | any v=>cases hb
 | sc h =>
  rename_i s
  have e:isB w (.sc s)=b:=by simpa [isBo] using hb
  rw [← e];symm
  cases h <;> first | rfl | skip
  ·rename_i b
   show iteB b w (not w)=_
   cases b <;> cases w <;> rfl
  ·rename_i h
   cases v <;> first | rfl | (simp [litV] at h)
theorem wanted_eq {σ:Map}{tm:Ev}{a:Act}{n:Nat}{ops:Array Oper}{o:Oper}{gd:Option (Nat×Bool)} (hf:RelF σ tm a.tmps) (hg:guardT ops.toList o.guard=some gd) {b:Bool} (hb:wantN tm gd=some b):Region.wanted o (yielded ops a.tmps)=b:=by
 unfold Region.wanted
 cases ho:o.guard with
 | none=>rw [ho] at hg;simp [guardT] at hg;subst hg;cases hb;rfl
 | some jw =>
  obtain ⟨j,w⟩:=jw
  rw [ho] at hg
  simp only [guardT] at hg
  split at hg
  ·rename_i oj hj
   obtain ⟨d,hd,rfl⟩:=Option.map_eq_some_iff.1 hg
   rw [← relV_bool (hf d) w hb];symm
   have hj':ops[j]?=some oj:=by simpa using hj
   simp only [yielded,hj',Option.bind_some,hd]
   have:a.tmps.getD d undef=(a.tmps[d]?).getD undef:=Array.getD_eq_getD_getElem? ..
   rw [this]
   cases ht:a.tmps[d]? with
   | none=>rfl
   | some v =>
    cases v with
    | bool b=>simp only [Option.getD_some];cases b <;> cases w <;> rfl
    | _=>rfl
  ·cases hg
def Does (P:Program) (g n:Nat) (tm:Ev) (st:St) (tf:Ev) (sf:St) (run:(Act→World→Prop)→Act→World→Prop):Prop :=
 Grow st sf ∧
 ∀ (σ:Map) (a:Act) (w:World) (lim:Nat),RelF σ tm a.tmps→Globals σ g→RelH σ st w→Free σ st.next lim→sf.next≤lim→n≤a.tmps.size →
  ∀ Q:Act→World→Prop,(∀ σ' a' w',Ext σ σ' st sf w w' sf.low→RelF σ' tf a'.tmps→a'.tmps.size=a.tmps.size→a'.defers=a.defers→Q a' w')→run Q a w
theorem Globals.mono {σ τ:Map}{g:Nat} (h:Globals σ g) (hl:σ.le τ):Globals τ g:=fun i hi=>let ⟨c,hc⟩:=h i hi;⟨c,hl _ _ hc⟩
section
variable {P:Program}{g n:Nat}{call:CallK}{ops:Array Oper}{Qx:Exit→Act→World→Prop}
theorem seq_region (hcall:CallOk P g call):∀ (rest:List Oper) (k:Nat),(∀ i,rest[i]?=ops[k+i]?)→∀ {tm:Ev}{st:St}{K:Ev→St→R}{x:X}{tz:PM V}{sz:St},
  evOps call (compRegion P g n ops.toList rest) tm st K=.done x tz sz →
  ∃ tf sf,K tf sf=.done x tz sz∧(∀ p,(∀ d,d∈(compRegion P g n ops.toList rest).map (·.dst)→d≠some p)→tf p=tm p)∧Does P g n tm st tf sf (fun Q a w=>∀ (ro:Option Nat) (Qx:Exit→Act→World→Prop),(∀ a' w',Q a' w'→Qx .normal a' w')→wpOpsIn (FW ro) 0 P ops Qx (List.range' k rest.length) a w)
 | [],k,hk,tm,st,K,x,tz,sz,h=>by
  refine ⟨tm,st,h,fun p _=>rfl,Grow.refl _,fun σ a w lim hf hg hr hfree hlim hn Q hQ ro Qx hx=>?_⟩
  simp only [List.length_nil,List.range'_zero,wpOpsIn]
  exact hx _ _ (hQ σ a w (Ext.refl hr) hf rfl rfl)
 | o :: rest,k,hk,tm,st,K,x,tz,sz,h=>by
  have hko:ops[k]?=some o:=by have:=hk 0;simpa using this.symm
  have hrest:∀ i,rest[i]?=ops[k+1+i]?:=fun i=>by have:=hk (i+1);simp at this;rw [this];congr 1;omega
  simp only [compRegion] at h
  unfold compCO at h
  cases hc:compOpR P g ops.toList o.op with
  | none =>
   rw [hc] at h
   cases hg:guardT ops.toList o.guard with
   | none=>rw [hg] at h;cases h
   | some gd=>rw [hg] at h;cases h
  | some c =>
   rw [hc] at h
   cases hg:guardT ops.toList o.guard with
   | none=>rw [hg] at h;cases h
   | some gd =>
    rw [hg] at h
    simp only at h
    cases hd:dstOk n o.dst with
    | false=>rw [hd] at h;cases h
    | true =>
     rw [hd] at h
     simp only [if_true] at h
     have h1:gop tm (gpath gd) (fun j=>op1 call tm st j c) st (fun v st=>putK tm (o.dst.map pathOf) v fun tm=>evOps call (compRegion P g n ops.toList rest) tm st K)=.done x tz sz:=h
     have hco:(compRegion P g n ops.toList (o :: rest)).map (·.dst)=o.dst.map pathOf :: (compRegion P g n ops.toList rest).map (·.dst):=by
      simp only [compRegion,List.map_cons];congr 1
      unfold compCO;rw [hc,hg];simp [hd]
     rw [hco]
     have hstep:∀ ro a w Qx,wpOpsIn (FW ro) 0 P ops Qx (List.range' k (o :: rest).length) a w=(if Region.wanted o (yielded ops a.tmps)=true then o.wpIn (FW ro) 0 P a w (wpOpsIn (FW ro) 0 P ops Qx (List.range' (k+1) rest.length)) Qx else (∀ f,o.about P w a.eval=some f→(FW ro).fn f)∧wpOpsIn (FW ro) 0 P ops Qx (List.range' (k+1) rest.length) (a.put o.dst undef) w):=fun ro a w Qx=>by
      simp only [List.length_cons,List.range'_succ,wpOpsIn,hko]
     rcases gop_done h1 with ⟨hw,h1⟩ | ⟨hw,h1⟩
     ·skip
      obtain ⟨v,st1,h2,h3,h5⟩:=(op_okR hcall hc h1).spec
      rw [putK_eq] at h2
      obtain ⟨tf,sf,hk2,hoff,h6,h8⟩:=seq_region hcall rest (k+1) hrest h2
      refine ⟨tf,sf,hk2,fun p hp=>by rw [hoff p fun o' ho'=>hp o' (List.mem_cons_of_mem _ ho'),putT_off _ _ _ (hp _ List.mem_cons_self)],h3.trans h6,fun σ a w lim hf hgl hr hfree hlim hn Q hQ ro Qx hx=>?_⟩
      rw [hstep,if_pos (wanted_eq (n:=n) hf hg hw)]
      refine ⟨fun _ _=>trivial, ?_⟩
      rw [Oper.semAt_eq _ _ _ (compOpR_defer hc)]
      refine (Gives.uponIn ro (h5 σ a w lim hf.relR hgl hr hfree (Nat.le_trans h6.next hlim) (fun v' w'=>wpOpsIn (FW ro) 0 P ops Qx (List.range' (k+1) rest.length) (a.put o.dst v') w') ?_) (fun v w hv=>hv))
      intro σ' v' w' hext hrel
      refine h8 σ' (a.put o.dst v') w' lim (relF_put (RelF.mono hext.le hf) hn hd hrel) (hgl.mono hext.le) hext.rel (hext.free hfree) hlim (by rw [put_size];exact hn) Q ?_ ro Qx hx
      intro σ2 a2 w2 e1 e2 e3 e4
      exact hQ σ2 a2 w2 ((hext.weaken h6.low).trans e1) e2 (by rw [e3,put_size]) (by rw [e4,put_defers])
     ·rw [putK_eq] at h1
      obtain ⟨tf,sf,hk2,hoff,h6,h8⟩:=seq_region hcall rest (k+1) hrest h1
      refine ⟨tf,sf,hk2,fun p hp=>by rw [hoff p fun o' ho'=>hp o' (List.mem_cons_of_mem _ ho'),putT_off _ _ _ (hp _ List.mem_cons_self)],h6,fun σ a w lim hf hgl hr hfree hlim hn Q hQ ro Qx hx=>?_⟩
      rw [hstep,if_neg (by rw [wanted_eq (n:=n) hf hg hw];simp)]
      refine ⟨fun _ _=>trivial,h8 σ (a.put o.dst undef) w lim (relF_put hf hn hd (relV_undef σ)) hgl hr hfree hlim (by rw [put_size];exact hn) Q ?_ ro Qx hx⟩
      intro σ2 a2 w2 e1 e2 e3 e4
      exact hQ σ2 a2 w2 e1 e2 (by rw [e3,put_size]) (by rw [e4,put_defers])
end
end
section
set_option linter.unusedSectionVars false
variable [LoopP]
def Ch (SS:Nat→St) (q id:Nat):Prop:=((SS q).next≤id∧id<(SS (q+1)).next)∨(SS (q+1)).heap.get id≠(SS q).heap.get id
inductive AStep (P:Program) (g:Nat) (o:Oper) (gd:Option (Nat×Bool)) (tm:Ev) (st:St) (tm':Ev) (st':St) (T:Nat→Prop) (H:Nat→Option Blk→Prop):Prop
 | skip:wantN tm gd=some false→tm'=putT tm o.dst undefV→st'=st→(∀ id,¬ T id)→AStep P g o gd tm st tm' st' T H
 | loose (id:Nat) (v:V):wantN tm gd=some true→tm'=putT tm o.dst v→st'=st→(∀ i,¬ T i)→(∀ ob,H id ob→∃ b,ob=some b∧LSpec P g o tm id b v)→AStep P g o gd tm st tm' st' T H
 | run (v:V) (s s':St):wantN tm gd=some true→tm'=putT tm o.dst v→Grow st st'→Spec P g o tm s v s'→s.next=st.next→s'.next=st'.next →
   (∀ id b,s.heap.get id=some b→st.heap.get id=some b)→(∀ id,id<st.next→s.heap.get id=none→st'.heap.get id=st.heap.get id) →
   (∀ id,st.next≤id∨s.heap.get id≠none→st'.heap.get id=s'.heap.get id)→(st'.low≤s'.low∨st.next≤s'.low)→(∀ id,T id↔s.heap.get id≠none)→AStep P g o gd tm st tm' st' T H
theorem AStep.grow {P:Program}{g:Nat}{o:Oper}{gd:Option (Nat×Bool)}{tm tm':Ev}{st st':St}{T:Nat→Prop}{H:Nat→Option Blk→Prop} (h:AStep P g o gd tm st tm' st' T H):Grow st st':=by
 cases h with
 | skip _ _ e _=>subst e;exact Grow.refl _
 | loose _ _ _ _ e _=>subst e;exact Grow.refl _
 | run v s s' _ _ h=>exact h
def Cons (SS:Nat→St) (N:Nat) (Pre:Nat→Nat→Prop) (p id k:Nat):Prop:=(∀ j,j<k→Ch SS j id→¬ Pre j p)∧(∀ j,k≤j→j<N→Ch SS j id→¬ Pre p j)
def At (SS:Nat→St) (N:Nat) (Pre:Nat→Nat→Prop) (p id:Nat) (ob:Option Blk):Prop:=∃ k,k≤N∧Cons SS N Pre p id k∧(SS k).heap.get id=ob
structure Run (P:Program) (g n N:Nat) (opAt:Nat→Oper) (gd:Nat→Option (Nat×Bool)) (TM:Nat→Ev) (SS:Nat→St) (T:Nat→Nat→Prop) (Pre:Nat→Nat→Prop):Prop where
 step:∀ p,p<N→AStep P g (opAt p) (gd p) (TM p) (SS p) (TM (p+1)) (SS (p+1)) (T p) (At SS N Pre p)
 wf:WfS (SS 0)
 ni:∀ q p,q<p→p<N→∀ id,((Ch SS q id∧T p id)∨((T q id∨Ch SS q id)∧Ch SS p id))→Pre p q
 dst:∀ q p,q<N→p<N→q≠p→∀ d,(opAt q).dst=some d→(opAt p).dst≠some d
 reads:∀ q p,q<N→p<N→q≠p→∀ d,(opAt q).dst=some d→(Operand.tmp d∈(opAt p).op.operands∨∃ w,gd p=some (d,w))→(q<p∧Pre p q)∨(p<q∧Pre q p)
 dn:∀ p,p<N→dstOk n (opAt p).dst=true
def Cut (SS:Nat→St) (N:Nat) (S:Nat→Prop) (id k:Nat):Prop:=(∀ j,j<k→Ch SS j id→S j)∧(∀ j,k≤j→j<N→Ch SS j id→¬ S j)
structure DInv (N M:Nat) (opAt:Nat→Oper) (TM:Nat→Ev) (SS:Nat→St) (lo:Nat) (σ0:Map) (w0:World) (S:Nat→Prop) (σ:Map) (a:Act) (w:World):Prop where
 tm1:∀ t p,p<N→S p→(opAt p).dst=some t→RelV σ (getD' ((TM (p+1)).get t)) (a.tmps.getD t undef)
 tm0:∀ t,(∀ p,p<N→S p→(opAt p).dst≠some t)→RelV σ (getD' ((TM 0).get t)) (a.tmps.getD t undef)
 sz:a.tmps.size=M
 le:σ0.le σ
 only:∀ id,(∀ p,p<N→S p→¬ ((SS p).next≤id∧id<(SS (p+1)).next))→σ id=σ0 id
 blk:∀ id k b,k≤N→Cut SS N S id k→(SS k).heap.get id=some b→RelB σ id b w
 inj:∀ id id' k k' b b' x y,k≤N→k'≤N→Cut SS N S id k→Cut SS N S id' k'→(SS k).heap.get id=some b→(SS k').heap.get id'=some b'→id≠id'→(b.own=true∨b'.own=true)→σ id=some x→σ id'=some y→x.1≠y.1
 size:w0.heap.size≤w.heap.size
 os:w.os=w0.os
 tape:w.tape=w0.tape
 output:w.output=w0.output
 fro:∀ a,w.frozen? a=w0.frozen? a
 frame:∀ B,B<w0.heap.size→(∀ id b x,(SS 0).heap.get id=some b→b.own=true→lo≤id→σ0 id=some x→x.1≠B)→w.heap[B]?=w0.heap[B]?
 fresh:∀ id k b x,(SS 0).next≤id→k≤N→Cut SS N S id k→(SS k).heap.get id=some b→σ id=some x →
  w0.heap.size≤x.1∨∃ j b0 y,(SS 0).heap.get j=some b0∧b0.own=true∧lo≤j∧σ0 j=some y∧y.1=x.1
section
variable {P:Program}{g n N M:Nat}{opAt:Nat→Oper}{gd:Nat→Option (Nat×Bool)}{TM:Nat→Ev}{SS:Nat→St}{T:Nat→Nat→Prop}{Pre:Nat→Nat→Prop}{S:Nat→Prop}
theorem Run.grow (R:Run P g n N opAt gd TM SS T Pre) (i:Nat):∀ d,i+d≤N→Grow (SS i) (SS (i+d))
 | 0,_=>Grow.refl _
 | d+1,h=>(R.grow i d (by omega)).trans ((R.step (i+d) (by omega)).grow)
theorem Run.grow' (R:Run P g n N opAt gd TM SS T Pre) {i j:Nat} (h:i≤j) (hj:j≤N):Grow (SS i) (SS j):=by
 have:=R.grow i (j - i) (by omega)
 rwa [show i+(j - i)=j by omega] at this
theorem Run.wf' (R:Run P g n N opAt gd TM SS T Pre) {i:Nat} (h:i≤N):WfS (SS i):=(R.grow' (Nat.zero_le i) h).wf R.wf
theorem cut_eq {id k k':Nat} (hk:k≤N) (hk':k'≤N) (h:Cut SS N S id k) (h':Cut SS N S id k'):(SS k).heap.get id=(SS k').heap.get id:=by
 have aux:∀ k k',k≤k'→k'≤N→Cut SS N S id k→Cut SS N S id k'→(SS k).heap.get id=(SS k').heap.get id:=by
  intro k k' hle hN h h'
  have go:∀ d,k+d≤k'→(SS k).heap.get id=(SS (k+d)).heap.get id:=by
   intro d
   induction d with
   | zero=>intro _;rfl
   | succ d ih =>
    intro hd
    rw [ih (by omega)]
    refine Classical.byContradiction fun hne=>?_
    have hc:Ch SS (k+d) id:=.inr fun he=>hne he.symm
    exact h.2 (k+d) (by omega) (by omega) hc (h'.1 (k+d) (by omega) hc)
  have:=go (k' - k) (by omega)
  rwa [show k+(k' - k)=k' by omega] at this
 rcases Nat.le_total k k' with hle | hle
 ·exact aux k k' hle hk' h h'
 ·exact (aux k' k hle hk h' h).symm
def Mine (SS:Nat→St) (T:Nat→Nat→Prop) (p id:Nat):Prop:=T p id∨((SS p).next≤id∧id<(SS (p+1)).next)
theorem Run.live (R:Run P g n N opAt gd TM SS T Pre) {p id:Nat} (hp:p<N) (h:T p id):∃ b,(SS p).heap.get id=some b:=by
 cases R.step p hp with
 | skip _ _ _ hT=>exact absurd h (hT id)
 | loose _ _ _ _ _ hT=>exact absurd h (hT id)
 | run v s s' _ _ _ _ _ _ hsub _ _ _ hT =>
  have:=(hT id).1 h
  cases hb:s.heap.get id with
  | none=>exact absurd hb this
  | some b=>exact ⟨b,hsub id b hb⟩
theorem WfS.lt {st:St} (h:WfS st) {id:Nat}{b:Blk} (hb:st.heap.get id=some b):id<st.next:=by
 refine Classical.byContradiction fun hn=>?_
 rw [h id (by omega)] at hb;cases hb
theorem Run.ch_mine (R:Run P g n N opAt gd TM SS T Pre) {p id:Nat} (hp:p<N) (h:Ch SS p id):Mine SS T p id:=by
 rcases h with h | h
 ·exact .inr h
 ·cases R.step p hp with
  | skip _ _ e _=>rw [e] at h;exact absurd rfl h
  | loose _ _ _ _ e _=>rw [e] at h;exact absurd rfl h
  | run v s s' _ _ hg _ e1 e2 hsub hsame _ _ hT =>
   by_cases hid:id<(SS p).next
   ·refine .inl ((hT id).2 fun hn=>h ?_)
    exact hsame id hid hn
   ·by_cases hid':id<(SS (p+1)).next
    ·exact .inr ⟨by omega,hid'⟩
    ·rw [R.wf' (Nat.le_of_lt hp) id (by omega),R.wf' (show p+1≤N from hp) id (by omega)] at h
     exact absurd rfl h
theorem Run.mine_lt (R:Run P g n N opAt gd TM SS T Pre) {p id:Nat} (hp:p<N) (h:Mine SS T p id):id<(SS (p+1)).next:=by
 rcases h with h | h
 ·obtain ⟨b,hb⟩:=R.live hp h
  exact Nat.lt_of_lt_of_le ((R.wf' (Nat.le_of_lt hp)).lt hb) (R.step p hp).grow.next
 ·exact h.2
theorem Run.cut (R:Run P g n N opAt gd TM SS T Pre) {p id:Nat} (hp:p<N) (hS:¬ S p) (hcl:∀ q,q<N→S q→∀ r,Pre q r→S r) (hpre:∀ r,Pre p r→S r) (h:Mine SS T p id):Cut SS N S id p:=by
 refine ⟨fun j hj hc=>?_,fun j hj hjN hc hSj=>?_⟩
 ·rcases h with h | h
  ·exact hpre j (R.ni j p hj hp id (.inl ⟨hc,h⟩))
  ·have h1:=R.mine_lt (Nat.lt_trans hj hp) (R.ch_mine (Nat.lt_trans hj hp) hc)
   have h2:=(R.grow' (show j+1≤p from hj) (Nat.le_of_lt hp)).next
   omega
 ·by_cases hjp:j=p
  ·subst hjp;exact hS hSj
  ·have hlt:p<j:=by omega
   refine hS (hcl j hjN hSj p (R.ni p j hlt hjN id (.inr ⟨?_,hc⟩)))
   rcases h with h | h
   ·exact .inl h
   ·exact .inr (.inl h)
theorem cut_mine {p id:Nat} (h:Cut SS N S id p):Cut SS N (fun q=>S q∨q=p) id (p+1):=by
 refine ⟨fun j hj hc=>?_,fun j hj hjN hc hSj=>?_⟩
 ·by_cases hjp:j=p
  ·exact .inr hjp
  ·exact .inl (h.1 j (by omega) hc)
 ·rcases hSj with hSj | hSj
  ·exact h.2 j (by omega) hjN hc hSj
  ·omega
theorem cut_other {p id k:Nat} (hn:¬ Ch SS p id) (h:Cut SS N (fun q=>S q∨q=p) id k):Cut SS N S id k:=by
 refine ⟨fun j hj hc=>?_,fun j hj hjN hc hSj=>h.2 j hj hjN hc (.inl hSj)⟩
 rcases h.1 j hj hc with h1 | h1
 ·exact h1
 ·subst h1;exact absurd hc hn
theorem Run.some_cut (R:Run P g n N opAt gd TM SS T Pre) (hcl:∀ q,q<N→S q→∀ r,Pre q r→S r) (id:Nat):∀ m,m≤N→∃ k,k≤m∧(∀ j,j<k→Ch SS j id→S j)∧(∀ j,k≤j→j<m→Ch SS j id→¬ S j)
 | 0,_=>⟨0,Nat.le_refl _,fun j h=>absurd h (by omega),fun j h1 h2=>absurd h2 (by omega)⟩
 | m+1,hm=>by
  by_cases h:Ch SS m id∧S m
  ·refine ⟨m+1,Nat.le_refl _,fun j hj hc=>?_,fun j h1 h2=>absurd h2 (by omega)⟩
   by_cases hjm:j=m
   ·subst hjm;exact h.2
   ·exact hcl m (by omega) h.2 j (R.ni j m (by omega) (by omega) id (.inr ⟨.inr hc,h.1⟩))
  ·obtain ⟨k,h1,h2,h3⟩:=R.some_cut hcl id m (by omega)
   refine ⟨k,by omega,h2,fun j h4 h5 hc hS=>?_⟩
   by_cases hjm:j=m
   ·subst hjm;exact h ⟨hc,hS⟩
   ·exact h3 j h4 (by omega) hc hS
theorem Run.tm_at (R:Run P g n N opAt gd TM SS T Pre) {t:Nat}:∀ {p:Nat},p≤N→(∀ q,q<p→(opAt q).dst≠some t)→getD' ((TM p).get t)=getD' ((TM 0).get t)
 | 0,_,_=>rfl
 | p+1,hp,h=>by
  have ih:=R.tm_at (t:=t) (p:=p) (by omega) fun q hq=>h q (by omega)
  rw [← ih]
  have hne:=h p (by omega)
  have hput:∀ v,(putT (TM p) (opAt p).dst v).get t=(TM p).get t:=fun v=>by
   cases hd:(opAt p).dst with
   | none=>rfl
   | some d=>rw [putT_get,if_neg (fun he=>hne (by rw [hd,he]))]
  cases R.step p (by omega) with
  | skip _ e _ _=>rw [e,hput]
  | loose _ _ _ e=>rw [e,hput]
  | run v s s' _ e=>rw [e,hput]
theorem Run.tm_from (R:Run P g n N opAt gd TM SS T Pre) {t q:Nat} (hq:q<N) (hd:(opAt q).dst=some t):∀ {p:Nat},q<p→p≤N→getD' ((TM p).get t)=getD' ((TM (q+1)).get t)
 | 0,h,_=>by omega
 | p+1,h,hp=>by
  by_cases hpq:p=q
  ·subst hpq;rfl
  ·rw [← R.tm_from hq hd (p:=p) (by omega) (by omega)]
   have hne:(opAt p).dst≠some t:=R.dst q p hq (by omega) (fun h=>hpq h.symm) t hd
   have hput:∀ v,(putT (TM p) (opAt p).dst v).get t=(TM p).get t:=fun v=>by
    cases hd:(opAt p).dst with
    | none=>rfl
    | some d=>rw [putT_get,if_neg (fun he=>hne (by rw [hd,he]))]
   cases R.step p (by omega) with
   | skip _ e _ _=>rw [e,hput]
   | loose _ _ _ e=>rw [e,hput]
   | run v s s' _ e=>rw [e,hput]
end
end
section
set_option linter.unusedSectionVars false
variable [LoopP]
section
variable {P:Program}{g n N M:Nat}{opAt:Nat→Oper}{gd:Nat→Option (Nat×Bool)}{TM:Nat→Ev}{SS:Nat→St}{T:Nat→Nat→Prop}{Pre:Nat→Nat→Prop}{S:Nat→Prop}
 {lo:Nat}{σ0 σ:Map}{w0 w:World}{a:Act}
theorem DInv.reads (I:DInv N M opAt TM SS lo σ0 w0 S σ a w) (R:Run P g n N opAt gd TM SS T Pre) {p:Nat} (hp:p<N) (hS:¬ S p) (hcl:∀ q,q<N→S q→∀ r,Pre q r→S r) (hpre:∀ r,Pre p r→S r)
  {t:Nat} (ht:Operand.tmp t∈(opAt p).op.operands∨∃ w,gd p=some (t,w)):RelV σ (getD' ((TM p).get t)) (a.tmps.getD t undef):=by
 by_cases hex:∃ q,q<N∧S q∧(opAt q).dst=some t
 ·obtain ⟨q,hq,hSq,hd⟩:=hex
  have hne:q≠p:=fun h=>hS (h▸hSq)
  rcases R.reads q p hq hp hne t hd ht with ⟨h1,h2⟩ | ⟨h1,h2⟩
  ·rw [R.tm_from hq hd h1 (Nat.le_of_lt hp)]
   exact I.tm1 t q hq hSq hd
  ·exact absurd (hcl q hq hSq p h2) hS
 ·rw [R.tm_at (Nat.le_of_lt hp)]
  ·exact I.tm0 t fun q hq hSq hd=>hex ⟨q,hq,hSq,hd⟩
  ·intro q hq hd
   have hqN:=Nat.lt_trans hq hp
   rcases R.reads q p hqN hp (by omega) t hd ht with ⟨h1,h2⟩ | ⟨h1,h2⟩
   ·exact hex ⟨q,hqN,hpre q h2,hd⟩
   ·omega
theorem getD_put_ne {a:Act}{o:Option Nat}{v:Value}{t:Nat} (h:o≠some t):(a.put o v).tmps.getD t undef=a.tmps.getD t undef:=by
 cases o with
 | none=>rfl
 | some d =>
  simp only [Act.put]
  rw [Array.getD_eq_getD_getElem?,Array.getElem?_setIfInBounds_ne (fun he=>h (by rw [he])),← Array.getD_eq_getD_getElem?]
theorem getD_put_eq {a:Act}{d:Nat}{v:Value} (h:d<a.tmps.size):(a.put (some d) v).tmps.getD d undef=v:=by
 simp only [Act.put]
 rw [Array.getD_eq_getD_getElem?,Array.getElem?_setIfInBounds_self_of_lt h];rfl
theorem DInv.put1 (I:DInv N M opAt TM SS lo σ0 w0 S σ a w) (R:Run P g n N opAt gd TM SS T Pre) {p:Nat} (hp:p<N) (hn:n≤M) {σ':Map} (hle:σ.le σ') {v:V}{v':Value} (htm:TM (p+1)=putT (TM p) (opAt p).dst v) (hv:RelV σ' v v') :
  ∀ t q,q<N→(S q∨q=p)→(opAt q).dst=some t→RelV σ' (getD' ((TM (q+1)).get t)) ((a.put (opAt p).dst v').tmps.getD t undef):=by
 intro t q hq hSq hd
 by_cases hqp:q=p
 ·subst hqp
  rw [htm,hd,putT_get,if_pos rfl]
  have hlt:t<n:=by have:=R.dn q hq;rw [hd] at this;exact blt_of this
  rw [getD_put_eq (by rw [I.sz];exact Nat.lt_of_lt_of_le hlt hn)]
  exact hv
 ·have hne:(opAt p).dst≠some t:=R.dst q p hq hp hqp t hd
  rw [getD_put_ne hne]
  rcases hSq with h | h
  ·exact (I.tm1 t q hq h hd).mono hle
  ·exact absurd h hqp
theorem DInv.put0 (I:DInv N M opAt TM SS lo σ0 w0 S σ a w) (R:Run P g n N opAt gd TM SS T Pre) {p:Nat} (hp:p<N) {σ':Map} (hle:σ.le σ') {v':Value} :
  ∀ t,(∀ q,q<N→(S q∨q=p)→(opAt q).dst≠some t)→RelV σ' (getD' ((TM 0).get t)) ((a.put (opAt p).dst v').tmps.getD t undef):=by
 intro t h
 rw [getD_put_ne (h p hp (.inr rfl))]
 exact (I.tm0 t fun q hq hS=>h q hq (.inl hS)).mono hle
theorem DInv.still (I:DInv N M opAt TM SS lo σ0 w0 S σ a w) (R:Run P g n N opAt gd TM SS T Pre) {p:Nat} (hp:p<N) (hn:n≤M)
  {v:V}{v':Value} (htm:TM (p+1)=putT (TM p) (opAt p).dst v) (hv:RelV σ v v') (hss:SS (p+1)=SS p):DInv N M opAt TM SS lo σ0 w0 (fun q=>S q∨q=p) σ (a.put (opAt p).dst v') w:=by
 have hnc:∀ id,¬ Ch SS p id:=fun id h=>by
  rcases h with h | h
  ·rw [hss] at h;omega
  ·rw [hss] at h;exact h rfl
 refine ⟨I.put1 R hp hn (Map.le.refl σ) htm hv,I.put0 R hp (Map.le.refl σ),by rw [put_size];exact I.sz,I.le,fun id h=>I.only id fun q hq hS=>h q hq (.inl hS), ?_, ?_,I.size,I.os,I.tape,I.output,I.fro,I.frame, ?_⟩
 ·intro id k b hk hc hb;exact I.blk id k b hk (cut_other (hnc id) hc) hb
 ·intro id id' k k' b b' x y hk hk' hc hc' hb hb' hne ho hx hy
  exact I.inj id id' k k' b b' x y hk hk' (cut_other (hnc id) hc) (cut_other (hnc id') hc') hb hb' hne ho hx hy
 ·intro id k b x h1 hk hc hb hx
  exact I.fresh id k b x h1 hk (cut_other (hnc id) hc) hb hx
theorem DInv.skip (I:DInv N M opAt TM SS lo σ0 w0 S σ a w) (R:Run P g n N opAt gd TM SS T Pre) {p:Nat} (hp:p<N) (hn:n≤M)
  (htm:TM (p+1)=putT (TM p) (opAt p).dst undefV) (hss:SS (p+1)=SS p):DInv N M opAt TM SS lo σ0 w0 (fun q=>S q∨q=p) σ (a.put (opAt p).dst undef) w:=I.still R hp hn htm (relV_undef σ) hss
theorem DInv.part (I:DInv N M opAt TM SS lo σ0 w0 S σ a w) (R:Run P g n N opAt gd TM SS T Pre) {p:Nat} (hp:p<N) (hS:¬ S p) (hcl:∀ q,q<N→S q→∀ r,Pre q r→S r) (hpre:∀ r,Pre p r→S r)
  {s:St} (hsub:∀ id b,s.heap.get id=some b→(SS p).heap.get id=some b) (hnx:s.next=(SS p).next) (hT:∀ id,T p id↔s.heap.get id≠none):RelH σ s w:=by
 have hc:∀ id b,s.heap.get id=some b→Cut SS N S id p:=fun id b hb=>R.cut hp hS hcl hpre (.inl ((hT id).2 (by rw [hb];simp)))
 refine ⟨fun id b hb=>I.blk id p b (Nat.le_of_lt hp) (hc id b hb) (hsub id b hb), ?_,fun id b hb=>?_⟩
 ·intro id id' b b' x y hb hb' hne ho hx hy
  exact I.inj id id' p p b b' x y (Nat.le_of_lt hp) (Nat.le_of_lt hp) (hc id b hb) (hc id' b' hb') (hsub id b hb) (hsub id' b' hb') hne ho hx hy
 ·rw [hnx];exact (R.wf' (Nat.le_of_lt hp)).lt (hsub id b hb)
theorem DInv.freeAt (I:DInv N M opAt TM SS lo σ0 w0 S σ a w) (R:Run P g n N opAt gd TM SS T Pre) {lim:Nat} (hf:Free σ0 (SS 0).next lim) (hl:(SS N).next≤lim) {p:Nat} (hp:p<N) (hS:¬ S p):Free σ (SS p).next (SS (p+1)).next:=by
 intro id h1 h2
 rw [I.only id]
 ·refine hf id ?_ ?_
  ·have:=(R.grow' (Nat.zero_le p) (Nat.le_of_lt hp)).next;omega
  ·have:=(R.grow' (show p+1≤N from hp) (Nat.le_refl N)).next;omega
 ·intro q hq hSq hr
  have hne:q≠p:=fun h=>hS (h▸hSq)
  rcases Nat.lt_or_gt_of_ne hne with h | h
  ·have:=(R.grow' (show q+1≤p from h) (Nat.le_of_lt hp)).next;omega
  ·have:=(R.grow' (show p+1≤q from h) (Nat.le_of_lt hq)).next;omega
theorem DInv.ran (I:DInv N M opAt TM SS lo σ0 w0 S σ a w) (R:Run P g n N opAt gd TM SS T Pre) {p:Nat} (hp:p<N) (hn:n≤M) (hS:¬ S p) (hcl:∀ q,q<N→S q→∀ r,Pre q r→S r) (hpre:∀ r,Pre p r→S r)
  (hlo:lo≤(SS N).low) {v:V}{s s':St} (htm:TM (p+1)=putT (TM p) (opAt p).dst v) (e1:s.next=(SS p).next) (e2:s'.next=(SS (p+1)).next)
  (hsub:∀ id b,s.heap.get id=some b→(SS p).heap.get id=some b) (hnew:∀ id,(SS p).next≤id∨s.heap.get id≠none→(SS (p+1)).heap.get id=s'.heap.get id)
  (hlow:(SS (p+1)).low≤s'.low∨(SS p).next≤s'.low) (hT:∀ id,T p id↔s.heap.get id≠none)
  {σ':Map}{v':Value}{w':World} (E:Ext σ σ' s s' w w' s'.low) (hv:RelV σ' v v'):DInv N M opAt TM SS lo σ0 w0 (fun q=>S q∨q=p) σ' (a.put (opAt p).dst v') w':=by
 have hpN:=Nat.le_of_lt hp
 have hp1:p+1≤N:=hp
 have hmono:=(R.step p hp).grow.next
 have hn0:=(R.grow' (Nat.zero_le p) hpN).next
 have hlo':∀ id b,s.heap.get id=some b→s'.low≤id→lo≤id:=fun id b hb hl=>by
  rcases hlow with h | h
  ·have:=(R.grow' hp1 (Nat.le_refl N)).low;omega
  ·have:=(R.wf' hpN).lt (hsub id b hb);omega
 have hT':∀ id b,s.heap.get id=some b→T p id:=fun id b hb=>(hT id).2 (by rw [hb];simp)
 have hcT:∀ id b,s.heap.get id=some b→Cut SS N S id p:=fun id b hb=>R.cut hp hS hcl hpre (.inl (hT' id b hb))
 have horig:∀ j b y,s.heap.get j=some b→b.own=true→s'.low≤j→σ j=some y→w0.heap.size≤y.1∨∃ i b0 z,(SS 0).heap.get i=some b0∧b0.own=true∧lo≤i∧σ0 i=some z∧z.1=y.1:=by
  intro j b y hb ho hl hy
  by_cases hj:j<(SS 0).next
  ·obtain ⟨b0,h1,h2⟩:=(R.grow' (Nat.zero_le p) hpN).keepOwn j b hj (hsub j b hb)
   refine .inr ⟨j,b0,y,h1,by rw [← h2];exact ho,hlo' j b hb hl, ?_,rfl⟩
   rw [← I.only j]
   ·exact hy
   ·intro q hq _ hr
    have:=(R.grow' (Nat.zero_le q) (Nat.le_of_lt hq)).next;omega
  ·exact I.fresh j p b y (by omega) hpN (hcT j b hb) (hsub j b hb) hy
 have hmineEq:∀ id,Mine SS T p id→(SS (p+1)).heap.get id=s'.heap.get id:=fun id h=>by
  rcases h with h | h
  ·exact hnew id (.inr ((hT id).1 h))
  ·exact hnew id (.inl h.1)
 have hcut':∀ id k b,k≤N→Cut SS N (fun q=>S q∨q=p) id k→(SS k).heap.get id=some b→Mine SS T p id→s'.heap.get id=some b:=fun id k b hk hc hb hm=>by
  rw [← hmineEq id hm,← hb]
  exact (cut_eq hk hp1 hc (cut_mine (R.cut hp hS hcl hpre hm))).symm
 have hsame:∀ id,¬ Mine SS T p id→σ' id=σ id:=fun id h=>E.only id fun hr=>h (.inr (by rw [e1,e2] at hr;exact hr))
 have holdT:∀ id,T p id→σ' id=σ id:=fun id h=>E.only id fun hr=>by
  obtain ⟨b,hb⟩:=R.live hp h
  have:=(R.wf' hpN).lt hb
  rw [e1] at hr;omega
 have hco:∀ {id k:Nat},¬ Mine SS T p id→Cut SS N (fun q=>S q∨q=p) id k→Cut SS N S id k:=fun hm hc=>cut_other (fun h=>hm (R.ch_mine hp h)) hc
 refine ⟨I.put1 R hp hn E.le htm hv,I.put0 R hp E.le,by rw [put_size];exact I.sz,I.le.trans E.le, ?_, ?_, ?_,Nat.le_trans I.size E.size,E.os.trans I.os,E.tape.trans I.tape,E.output.trans I.output,fun a=>(E.fro a).trans (I.fro a), ?_, ?_⟩
 ·intro id h
  rw [E.only id (by rw [e1,e2];exact h p hp (.inr rfl))]
  exact I.only id fun q hq hSq=>h q hq (.inl hSq)
 ·intro id k b hk hc hb
  by_cases hm:Mine SS T p id
  ·exact E.rel.blk id b (hcut' id k b hk hc hb hm)
  ·have hB:=I.blk id k b hk (hco hm hc) hb
   obtain ⟨x,hx⟩:=hB.map
   refine (hB.world hx (E.frame x.1 (hB.lt hx) ?_)).mono E.le
   intro id' b' x' hb' hown _ hx'
   have hne:id'≠id:=fun h=>hm (.inl (h▸hT' id' b' hb'))
   exact I.inj id' id p k b' b x' x hpN hk (hcT id' b' hb') (hco hm hc) (hsub id' b' hb') hb hne (.inl hown) hx' hx
 ·
  have one:∀ id id' k k' b b' x y,k≤N→k'≤N→Cut SS N (fun q=>S q∨q=p) id k→Cut SS N (fun q=>S q∨q=p) id' k'→(SS k).heap.get id=some b→(SS k').heap.get id'=some b'→id≠id'→(b.own=true∨b'.own=true)→σ' id=some x→σ' id'=some y→Mine SS T p id→¬ Mine SS T p id'→x.1≠y.1:=by
   intro id id' k k' b b' x y hk hk' hc hc' hb hb' hne hown hx hy hm hm'
   rw [hsame id' hm'] at hy
   have hkeep:T p id→∀ b0,s.heap.get id=some b0→b.own=b0.own:=fun hm b0 hb0=>by
    have h1:(SS (p+1)).heap.get id=some b:=by rw [hmineEq id (.inl hm)];exact hcut' id k b hk hc hb (.inl hm)
    obtain ⟨c,h2,h3⟩:=(R.step p hp).grow.keepOwn id b ((R.wf' hpN).lt (hsub id b0 hb0)) h1
    rw [hsub id b0 hb0] at h2;cases h2;exact h3
   rcases hm with hm | hm
   ·rw [holdT id hm] at hx
    have:∃ b0,s.heap.get id=some b0:=by
     cases hs:s.heap.get id with
     | none=>exact absurd hs ((hT id).1 hm)
     | some b0=>exact ⟨b0,rfl⟩
    obtain ⟨b0,hb0⟩:=this
    exact I.inj id id' p k' b0 b' x y hpN hk' (hcT id b0 hb0) (hco hm' hc') (hsub id b0 hb0) hb' hne (hown.imp (fun h=>(hkeep hm b0 hb0)▸h) fun h=>h) hx hy
   ·have hb1:=hcut' id k b hk hc hb (.inr hm)
    rcases E.fresh id b x (by rw [e1];exact hm.1) hb1 hx with h | ⟨j,c,z,h1,h2,h3,h4,h5⟩
    ·have:=(I.blk id' k' b' hk' (hco hm' hc') hb').lt hy;omega
    ·have hne':j≠id':=fun h=>hm' (.inl (h▸hT' j c h1))
     rw [← h5]
     exact I.inj j id' p k' c b' z y hpN hk' (hcT j c h1) (hco hm' hc') (hsub j c h1) hb' hne' (.inl h2) h4 hy
  intro id id' k k' b b' x y hk hk' hc hc' hb hb' hne hown hx hy
  by_cases hm:Mine SS T p id
  ·by_cases hm':Mine SS T p id'
   ·exact E.rel.inj id id' b b' x y (hcut' id k b hk hc hb hm) (hcut' id' k' b' hk' hc' hb' hm') hne hown hx hy
   ·exact one id id' k k' b b' x y hk hk' hc hc' hb hb' hne hown hx hy hm hm'
  ·by_cases hm':Mine SS T p id'
   ·exact (one id' id k' k b' b y x hk' hk hc' hc hb' hb hne.symm hown.symm hy hx hm' hm).symm
   ·rw [hsame id hm] at hx
    rw [hsame id' hm'] at hy
    exact I.inj id id' k k' b b' x y hk hk' (hco hm hc) (hco hm' hc') hb hb' hne hown hx hy
 ·intro B hB h
  rw [E.frame B (Nat.lt_of_lt_of_le hB I.size) ?_]
  ·exact I.frame B hB h
  ·intro id b x hb ho hl hx
   rcases horig id b x hb ho hl hx with h1 | ⟨i,b0,z,h1,h2,h3,h4,h5⟩
   ·omega
   ·rw [← h5];exact h i b0 z h1 h2 h3 h4
 ·intro id k b x hid hk hc hb hx
  by_cases hm:Mine SS T p id
  ·rcases hm with hm | hm
   ·rw [holdT id hm] at hx
    obtain ⟨b0,hb0⟩:=R.live hp hm
    exact I.fresh id p b0 x hid hpN (R.cut hp hS hcl hpre (.inl hm)) hb0 hx
   ·have hb1:=hcut' id k b hk hc hb (.inr hm)
    rcases E.fresh id b x (by rw [e1];exact hm.1) hb1 hx with h | ⟨j,c,z,h1,h2,h3,h4,h5⟩
    ·have:=I.size;exact .inl (by omega)
    ·rw [← h5];exact horig j c z h1 h2 h3 h4
  ·rw [hsame id hm] at hx
   exact I.fresh id k b x hid hk (hco hm hc) hb hx
end
end
section
set_option linter.unusedSectionVars false
variable [LoopP]
section
variable {P:Program}{g n N M:Nat}{opAt:Nat→Oper}{gd:Nat→Option (Nat×Bool)}{TM:Nat→Ev}{SS:Nat→St}{T:Nat→Nat→Prop}{Pre:Nat→Nat→Prop}{S:Nat→Prop}
 {lo:Nat}{σ0 σ:Map}{w0 w:World}{a:Act}
theorem Cut.congr {S':Nat→Prop} (h:∀ q,q<N→(S q↔S' q)) {id k:Nat} (hk:k≤N) (hc:Cut SS N S id k):Cut SS N S' id k :=
 ⟨fun j hj hch=>(h j (by omega)).1 (hc.1 j hj hch),fun j hj hjN hch hS=>hc.2 j hj hjN hch ((h j hjN).2 hS)⟩
theorem DInv.congr {S':Nat→Prop} (h:∀ q,q<N→(S q↔S' q)) (I:DInv N M opAt TM SS lo σ0 w0 S σ a w):DInv N M opAt TM SS lo σ0 w0 S' σ a w:=by
 have h':∀ q,q<N→(S' q↔S q):=fun q hq=>(h q hq).symm
 exact ⟨fun t p hp hS hd=>I.tm1 t p hp ((h p hp).2 hS) hd,fun t ht=>I.tm0 t fun p hp hS=>ht p hp ((h p hp).1 hS),I.sz,I.le,fun id hid=>I.only id fun p hp hS=>hid p hp ((h p hp).1 hS),
  fun id k b hk hc hb=>I.blk id k b hk (hc.congr h' hk) hb,fun id id' k k' b b' x y hk hk' hc hc'=>I.inj id id' k k' b b' x y hk hk' (hc.congr h' hk) (hc'.congr h' hk'),
  I.size,I.os,I.tape,I.output,I.fro,I.frame,fun id k b x h1 hk hc=>I.fresh id k b x h1 hk (hc.congr h' hk)⟩
theorem wanted_eq' {σ:Map}{tm:Ev}{a:Act}{ops:Array Oper}{o:Oper}{gd:Option (Nat×Bool)} (hf:∀ d w,gd=some (d,w)→RelV σ (getD' (tm.get d)) (a.tmps.getD d undef)) (hg:guardT ops.toList o.guard=some gd) {b:Bool} (hb:wantN tm gd=some b):Region.wanted o (yielded ops a.tmps)=b:=by
 unfold Region.wanted
 cases ho:o.guard with
 | none=>rw [ho] at hg;simp [guardT] at hg;subst hg;cases hb;rfl
 | some jw =>
  obtain ⟨j,w⟩:=jw
  rw [ho] at hg
  simp only [guardT] at hg
  split at hg
  ·rename_i oj hj
   obtain ⟨d,hd,rfl⟩:=Option.map_eq_some_iff.1 hg
   rw [← relV_bool (hf d w rfl) w hb];symm
   have hj':ops[j]?=some oj:=by simpa using hj
   simp only [yielded,hj',Option.bind_some,hd]
   have:a.tmps.getD d undef=(a.tmps[d]?).getD undef:=Array.getD_eq_getD_getElem? ..
   rw [this]
   cases ht:a.tmps[d]? with
   | none=>rfl
   | some v =>
    cases v with
    | bool b=>simp only [Option.getD_some];cases b <;> cases w <;> rfl
    | _=>rfl
  ·cases hg
def left (N:Nat) (listed:Array Bool):Nat:=((List.range N).filter fun i=>!listed.getD i true).length
theorem filter_le {α:Type}{p q:α→Bool} (h:∀ x,q x=true→p x=true):∀ l:List α,(l.filter q).length≤(l.filter p).length
 | []=>Nat.le_refl _
 | x :: l=>by
  have ih:=filter_le h l
  cases hq:q x with
  | true=>simp [List.filter_cons,hq,h x hq,ih]
  | false =>
   cases hp:p x with
   | true=>simp [List.filter_cons,hq,hp];omega
   | false=>simp [List.filter_cons,hq,hp,ih]
theorem filter_lt {α:Type}{p q:α→Bool} (h:∀ x,q x=true→p x=true) {y:α} (hp:p y=true) (hq:q y=false):∀ l:List α,y∈l→(l.filter q).length<(l.filter p).length
 | [],hm=>by cases hm
 | x :: l,hm=>by
  rcases List.mem_cons.1 hm with rfl | hm
  ·have:=filter_le h l
   simp [List.filter_cons,hq,hp];omega
  ·have ih:=filter_lt h hp hq l hm
   cases hq':q x with
   | true=>simp [List.filter_cons,hq',h x hq'];exact ih
   | false =>
    cases hp':p x with
    | true=>simp [List.filter_cons,hq',hp'];omega
    | false=>simp [List.filter_cons,hq',hp'];exact ih
theorem drawn_any (R:Run P g n N opAt gd TM SS T Pre) {ops:Array Oper}{ord:Nat→Nat} (hN:ops.size=N) (hop:∀ p,p<N→ops[ord p]?=some (opAt p)) (hsurj:∀ i,i<N→∃ p,p<N∧ord p=i)
  (hinj:∀ p q,p<N→q<N→ord p=ord q→p=q) (hguard:∀ p,p<N→guardT ops.toList (opAt p).guard=some (gd p))
  (hback:∀ p,p<N→∀ e,e∈(opAt p).after→Region.binds .any e=true→e.on<ord p)
  (hpre:∀ (S:Nat→Prop),(∀ q,q<N→S q→∀ r,Pre q r→S r)→∀ p,p<N→(∀ e,e∈(opAt p).after→Region.binds .any e=true→∃ q,q<N∧ord q=e.on∧S q)→∀ r,Pre p r→S r)
  (hn:n≤M) (hlo:lo≤(SS N).low) {lim:Nat} (hfree:Free σ0 (SS 0).next lim) (hlim:(SS N).next≤lim) (hg:Globals σ0 g) {D:List Deferred}{Q:Exit→Act→World→Prop} (ro:Option Nat) (hdef:∀ p,p<N→∀ d,(opAt p).op≠.defer d)
  (hQ:∀ σ a w,DInv N M opAt TM SS lo σ0 w0 (fun _=>True) σ a w→a.defers=D→Q .normal a w) :
  ∀ (fuel:Nat) (listed:Array Bool) (σ:Map) (a:Act) (w:World),listed.size=N→left N listed≤fuel→(∀ q,q<N→listed.getD (ord q) false=true→∀ r,Pre q r→listed.getD (ord r) false=true) →
   DInv N M opAt TM SS lo σ0 w0 (fun q=>listed.getD (ord q) false=true) σ a w→a.defers=D→wpAnyIn (FW ro) 0 P .any ops Q fuel listed a w:=by
 have hord:∀ p,p<N→ord p<N:=fun p hp=>by rw [← hN];exact (Array.getElem?_eq_some_iff.1 (hop p hp)).1
 have hdfl:∀ {listed:Array Bool}{i:Nat},listed.size=N→i<N→listed.getD i true=listed.getD i false:=fun hs hi=>by
  rename_i listed i
  rw [Array.getD_eq_getD_getElem?,Array.getD_eq_getD_getElem?,Array.getElem?_eq_getElem (by omega)];rfl
 have hall:∀ (listed:Array Bool) (σ:Map) (a:Act) (w:World),listed.size=N→(∀ i,i<N→listed.getD i false=true)→DInv N M opAt TM SS lo σ0 w0 (fun q=>listed.getD (ord q) false=true) σ a w→a.defers=D→Q .normal a w:=fun listed σ a w hs h I hd =>
  hQ σ a w (I.congr fun q hq=>⟨fun _=>trivial,fun _=>h (ord q) (hord q hq)⟩) hd
 have hready:∀ listed:Array Bool,listed.size=N→Region.ready .any ops listed=[]→∀ i,i<N→listed.getD i false=true:=by
  intro listed hs hr i
  induction i using Nat.strongRecOn with
  | ind i ih =>
   intro hi
   refine Classical.byContradiction fun hne=>?_
   obtain ⟨p,hp,rfl⟩:=hsurj i hi
   have hmem:ord p∈Region.ready .any ops listed:=mem_ready.2 ⟨by rw [hdfl hs hi];exact Bool.eq_false_iff.2 hne,opAt p,hop p hp,fun e he hb=>ih e.on (hback p hp e he hb) (Nat.lt_trans (hback p hp e he hb) hi)⟩
   rw [hr] at hmem;cases hmem
 intro fuel
 induction fuel with
 | zero =>
  intro listed σ a w hs hl hcl I hd
  have hfull:∀ i,i<N→listed.getD i false=true:=fun i hi=>by
   have h0:(List.range N).filter (fun i=>!listed.getD i true)=[]:=List.eq_nil_of_length_eq_zero (Nat.le_zero.1 hl)
   have:=List.filter_eq_nil_iff.1 h0 i (List.mem_range.2 hi)
   rw [hdfl hs hi] at this
   simpa using this
  refine ⟨?_,hall listed σ a w hs hfull I hd⟩
  refine List.eq_nil_iff_forall_not_mem.2 fun i hm=>?_
  obtain ⟨h1,o,ho,_⟩:=mem_ready.1 hm
  have hi:i<N:=by rw [← hN];exact (Array.getElem?_eq_some_iff.1 ho).1
  rw [hdfl hs hi,hfull i hi] at h1;cases h1
 | succ fuel ih =>
  intro listed σ a w hs hl hcl I hd
  refine ⟨fun hr=>hall listed σ a w hs (hready listed hs hr) I hd,fun i hi=>?_⟩
  obtain ⟨h1,o,ho,hbind⟩:=mem_ready.1 hi
  have hiN:i<N:=by rw [← hN];exact (Array.getElem?_eq_some_iff.1 ho).1
  obtain ⟨p,hp,rfl⟩:=hsurj i hiN
  have:o=opAt p:=by rw [hop p hp] at ho;cases ho;rfl
  subst this
  have hS:¬ listed.getD (ord p) false=true:=by rw [hdfl hs hiN] at h1;rw [h1];simp
  have hprep:=hpre (fun q=>listed.getD (ord q) false=true) hcl p hp fun e he hb=>by
   obtain ⟨q,hq,hqe⟩:=hsurj e.on (Nat.lt_trans (hback p hp e he hb) hiN)
   exact ⟨q,hq,hqe,by show listed.getD (ord q) false=true;rw [hqe];exact hbind e he hb⟩
  have hset:∀ q,q<N→((listed.getD (ord q) false=true∨q=p)↔(listed.setIfInBounds (ord p) true).getD (ord q) false=true):=fun q hq=>by
   by_cases hqp:q=p
   ·subst hqp
    refine ⟨fun _=>?_,fun _=>.inr rfl⟩
    rw [Array.getD_eq_getD_getElem?,Array.getElem?_setIfInBounds_self_of_lt (by omega)];rfl
   ·have hne:ord p≠ord q:=fun h=>hqp (hinj q p hq hp h.symm)
    rw [getD_set_ne false hne]
    exact ⟨fun h=>h.resolve_right hqp,.inl⟩
  have hs':(listed.setIfInBounds (ord p) true).size=N:=by simpa using hs
  have hl':left N (listed.setIfInBounds (ord p) true)≤fuel:=by
   have:left N (listed.setIfInBounds (ord p) true)<left N listed:=by
    refine filter_lt (fun x hx=>?_) (y:=ord p) (by simp only [h1];rfl) ?_ _ (List.mem_range.2 hiN)
    ·by_cases hx':ord p=x
     ·subst hx'
      rw [h1];rfl
     ·rw [getD_set_ne true hx'] at hx;exact hx
    ·rw [Array.getD_eq_getD_getElem?,Array.getElem?_setIfInBounds_self_of_lt (by omega)];rfl
   omega
  have hcl':∀ q,q<N→(listed.setIfInBounds (ord p) true).getD (ord q) false=true→∀ r,Pre q r→(listed.setIfInBounds (ord p) true).getD (ord r) false=true:=fun q hq hSq r hr=>by
   rcases (hset q hq).2 hSq with h | h
   ·exact getD_set_true (hcl q hq h r hr)
   ·subst h;exact getD_set_true (hprep r hr)
  have hreads:∀ t,(Operand.tmp t∈(opAt p).op.operands∨∃ w,gd p=some (t,w))→RelV σ (getD' ((TM p).get t)) (a.tmps.getD t undef):=fun t ht=>I.reads R hp hS hcl hprep ht
  have hw:=fun (b:Bool) (hb:wantN (TM p) (gd p)=some b)=>wanted_eq' (tm:=TM p) (a:=a) (fun d w hdw=>hreads d (.inr ⟨w,hdw⟩)) (hguard p hp) hb
  show wpOpIn (FW ro) 0 P ops Q (ord p) (wpAnyIn (FW ro) 0 P .any ops Q fuel (listed.setIfInBounds (ord p) true)) a w
  unfold wpOpIn
  simp only [hop p hp]
  cases R.step p hp with
  | skip e0 e1 e2 hT =>
   rw [if_neg (by rw [hw _ e0];simp)]
   exact ⟨fun _ _=>trivial,ih _ σ _ w hs' hl' hcl' ((I.skip R hp hn e1 e2).congr hset) (by rw [put_defers];exact hd)⟩
  | loose id v e0 e1 e2 hT hH =>
   obtain ⟨k,hk,hc1,hc2⟩:=R.some_cut (S:=fun q=>listed.getD (ord q) false=true) hcl id N (Nat.le_refl N)
   obtain ⟨b,hb,hL⟩:=hH _ ⟨k,hk,⟨fun j hj hch hpr=>hS (hcl j (by omega) (hc1 j hj hch) p hpr),fun j h1 h2 hch hpr=>hc2 j h1 h2 hch (hprep j hpr)⟩,rfl⟩
   obtain ⟨v',g1,g2⟩:=hL σ a w (fun t ht=>hreads t (.inl ht)) (hg.mono I.le) (I.blk id k b hk ⟨hc1,hc2⟩ hb)
   rw [if_pos (hw _ e0)]
   refine ⟨fun _ _=>trivial, ?_⟩
   rw [Oper.semAt_eq _ _ _ (hdef p hp)]
   refine Gives.uponIn ro (next:=fun v' w'=>wpAnyIn (FW ro) 0 P .any ops Q fuel (listed.setIfInBounds (ord p) true) (a.put (opAt p).dst v') w') ?_ (fun v w hv=>hv)
   rw [g1]
   exact ih _ σ _ w hs' hl' hcl' ((I.still R hp hn e1 g2 e2).congr hset) (by rw [put_defers];exact hd)
  | run v s s' e0 e1 hgr hspec e2 e3 hsub hsame hnew hlow hT =>
   rw [if_pos (hw _ e0)]
   refine ⟨fun _ _=>trivial, ?_⟩
   rw [Oper.semAt_eq _ _ _ (hdef p hp)]
   refine (Gives.uponIn ro (hspec.2 σ a w (SS (p+1)).next (fun t ht=>hreads t (.inl ht)) (hg.mono I.le) (I.part R hp hS hcl hprep hsub e2 hT) (by rw [e2];exact I.freeAt R hfree hlim hp hS) (Nat.le_of_eq e3) (fun v' w'=>wpAnyIn (FW ro) 0 P .any ops Q fuel (listed.setIfInBounds (ord p) true) (a.put (opAt p).dst v') w') ?_) (fun v w hv=>hv))
   intro σ' v' w' E hv
   exact ih _ σ' _ w' hs' hl' hcl' ((I.ran R hp hn hS hcl hprep hlo e1 e2 e3 hsub hnew hlow hT E hv).congr hset) (by rw [put_defers];exact hd)
end
end
section
set_option linter.unusedSectionVars false
variable [LoopP]
theorem sub'_bit {i m:Nat}:sub' (2 ^ i) m=true→Nat.testBit m i=true:=by
 intro h
 have h1:Nat.land (2 ^ i) m=2 ^ i:=Nat.eq_of_beq_eq_true h
 have h2:Nat.testBit (2 ^ i &&& m) i=Nat.testBit (2 ^ i) i:=congrArg (Nat.testBit · i) h1
 rw [Nat.testBit_and,Nat.testBit_two_pow_self] at h2
 simpa using h2
theorem sub'_of {a m i:Nat} (h:sub' a m=true) (hi:Nat.testBit a i=true):Nat.testBit m i=true:=by
 have h1:Nat.land a m=a:=Nat.eq_of_beq_eq_true h
 have h2:Nat.testBit (a &&& m) i=Nat.testBit a i:=congrArg (Nat.testBit · i) h1
 rw [Nat.testBit_and,hi] at h2
 simpa using h2
theorem lor_left {a b i:Nat} (h:Nat.testBit a i=true):Nat.testBit (Nat.lor a b) i=true:=by
 show Nat.testBit (a ||| b) i=true
 rw [Nat.testBit_or,h];rfl
theorem lor_bit {a i:Nat}:Nat.testBit (Nat.lor a (2 ^ i)) i=true:=by
 show Nat.testBit (a ||| 2 ^ i) i=true
 rw [Nat.testBit_or,Nat.testBit_two_pow_self];simp
theorem and'_true {a b:Bool} (h:and' a b=true):a=true∧b=true:=by cases a <;> cases b <;> first | exact ⟨rfl,rfl⟩ | cases h
theorem or'_true {a b:Bool} (h:or' a b=true):a=true∨b=true:=by cases a <;> cases b <;> first | exact .inl rfl | exact .inr rfl | cases h
theorem clear_of {pre id:Nat}:∀ {l:List (Nat×Nat)},clear pre id l=true→∀ i,(2 ^ i,id)∈l→Nat.testBit pre i=true
 | [],_,i,hm=>by cases hm
 | p :: l,h,i,hm=>by
  have h':iteB (Nat.beq p.2 id) (and' (sub' p.1 pre) (clear pre id l)) (clear pre id l)=true:=h
  rw [iteB_eq] at h'
  split at h'
  ·obtain ⟨h1,h2⟩:=and'_true h'
   rcases List.mem_cons.1 hm with rfl | hm
   ·exact sub'_bit h1
   ·exact clear_of h2 i hm
  ·rename_i hne
   rcases List.mem_cons.1 hm with rfl | hm
   ·exact absurd (Nat.beq_refl id) hne
   ·exact clear_of h' i hm
theorem clearL_of {pre id:Nat}:∀ {l:List LL},clearL pre id l=true→∀ i (e:LL),e∈l→e.bit=2 ^ i→e.id=id→Nat.testBit pre i=true
 | [],_,i,e,hm,_,_=>by cases hm
 | p :: l,h,i,e,hm,hb,hi=>by
  have h':iteB (Nat.beq p.id id) (and' (sub' p.bit pre) (clearL pre id l)) (clearL pre id l)=true:=h
  rw [iteB_eq] at h'
  split at h'
  ·obtain ⟨h1,h2⟩:=and'_true h'
   rcases List.mem_cons.1 hm with rfl | hm
   ·rw [hb] at h1;exact sub'_bit h1
   ·exact clearL_of h2 i e hm hb hi
  ·rename_i hne
   rcases List.mem_cons.1 hm with rfl | hm
   ·exact absurd (by rw [hi];exact Nat.beq_refl id) hne
   ·exact clearL_of h' i e hm hb hi
theorem allIn_of {pre:Nat}:∀ {l:List HW},allIn pre l=true→∀ i (e:HW),e∈l→e.bit=2 ^ i→Nat.testBit pre i=true
 | [],_,i,e,hm,_=>by cases hm
 | p :: l,h,i,e,hm,hb=>by
  obtain ⟨h1,h2⟩:=and'_true (show and' (sub' p.bit pre) (allIn pre l)=true from h)
  rcases List.mem_cons.1 hm with rfl | hm
  ·rw [hb] at h1;exact sub'_bit h1
  ·exact allIn_of h2 i e hm hb
theorem below_of {pre id:Nat}:∀ {l:List HW},below pre id l=true→∀ e:HW,e∈l→sub' e.bit pre=true∨id<e.lw
 | [],_,e,hm=>by cases hm
 | p :: l,h,e,hm=>by
  obtain ⟨h1,h2⟩:=and'_true (show and' (or' (sub' p.bit pre) (Nat.blt id p.lw)) (below pre id l)=true from h)
  rcases List.mem_cons.1 hm with rfl | hm
  ·exact (or'_true h1).imp (fun h=>h) blt_of
  ·exact below_of h2 e hm
theorem under_of {pre lw:Nat}:∀ {l:List LL},under pre lw l=true→∀ e:LL,e∈l→sub' e.bit pre=true∨e.id<lw
 | [],_,e,hm=>by cases hm
 | p :: l,h,e,hm=>by
  obtain ⟨h1,h2⟩:=and'_true (show and' (or' (sub' p.bit pre) (Nat.blt p.id lw)) (under pre lw l)=true from h)
  rcases List.mem_cons.1 hm with rfl | hm
  ·exact (or'_true h1).imp (fun h=>h) blt_of
  ·exact under_of h2 e hm
def Same (re:St→R→R) (s:St):Prop:=∃ k x tf sf,re s k=.done x tf sf
def ReOk (P:Program) (g:Nat) (o:Oper) (tm:Ev) (id:Nat) (v:V) (re:St→R→R):Prop :=
 ∀ s k x tf sf,re s k=.done x tf sf→(∃ b,s.heap.get id=some b∧LSpec P g o tm id b v)∧k=.done x tf sf
inductive StepOk (P:Program) (g n0:Nat) (o:Oper) (gd:Option (Nat×Bool)) (bit pre:Nat) (tm:Ev) (st:St) (mk:Mk) (tm':Ev) (st':St) (mk':Mk) (T:Nat→Prop):Prop
 | skip:wantN tm gd=some false→tm'=putT tm o.dst undefV→st'=st→mk'=mk→(∀ id,¬ T id)→StepOk P g n0 o gd bit pre tm st mk tm' st' mk' T
 | pure (v:V):wantN tm gd=some true→PSpec P g o tm v→tm'=putT tm o.dst v→st'=st→mk'=mk→(∀ id,¬ T id)→StepOk P g n0 o gd bit pre tm st mk tm' st' mk' T
 | new (nb:Blk) (v:V):wantN tm gd=some true→ASpec P g o tm st.next nb v→tm'=putT tm o.dst v→st'=newBlk st nb→mk'=⟨Nat.lor mk.al bit,mk.lm,mk.sm,mk.hv,mk.hw,mk.ll,mk.ss⟩→(∀ id,¬ T id)→StepOk P g n0 o gd bit pre tm st mk tm' st' mk' T
 | load (id:Nat) (b:Blk) (v:V) (re:St→R→R):wantN tm gd=some true→st.heap.get id=some b→LSpec P g o tm id b v→okL2 mk n0 pre id=true→tm'=putT tm o.dst v→st'=st →
   mk'=⟨mk.al,Nat.lor mk.lm bit,mk.sm,mk.hv,mk.hw,⟨bit,id,re⟩ :: mk.ll,mk.ss⟩→(∀ i,¬ T i)→ReOk P g o tm id v re→(∀ e,e∈mk.hw→sub' e.bit pre=true∨id<e.lw∨Same re e.sn)→StepOk P g n0 o gd bit pre tm st mk tm' st' mk' T
 | store (id:Nat) (b b':Blk):wantN tm gd=some true→st.heap.get id=some b→SSpec P g o tm id b b'→okS mk n0 pre id=true→tm'=putT tm o.dst undefV→st'=putBlk st id (some b') →
   mk'=⟨mk.al,mk.lm,Nat.lor mk.sm bit,mk.hv,mk.hw,mk.ll,(bit,id) :: mk.ss⟩→(∀ i,T i↔i=id)→StepOk P g n0 o gd bit pre tm st mk tm' st' mk' T
 | wrote (v:V) (s1:St):wantN tm gd=some true→okH mk pre=true→Spec P g o tm (setLow st st.next) v s1→tm'=putT tm o.dst v→s1.low<st.next→(sub' mk.hv pre=true∧(sub' mk.lm pre=true∨∀ e,e∈mk.ll→sub' e.bit pre=true∨e.id<s1.low∨Same e.re s1))→st'=⟨s1.heap,s1.next,min st.low s1.low⟩ →
   mk'=⟨Nat.lor mk.al bit,mk.lm,mk.sm,Nat.lor mk.hv bit,⟨bit,s1.low,st⟩ :: mk.hw,mk.ll,mk.ss⟩→(∀ i,T i↔st.heap.get i≠none)→StepOk P g n0 o gd bit pre tm st mk tm' st' mk' T
 | touch (v:V) (ids:List Nat) (s s1:St):wantN tm gd=some true→okT mk n0 pre ids=true→Spec P g o tm s v s1→tm'=putT tm o.dst v→s.next=st.next→s1.next=st'.next→st'.low=s1.low→st'.low≤st.low→Grow st st' →
   (∀ id,s.heap.get id=if id∈ids then st.heap.get id else none)→(∀ id,st'.heap.get id=if id∈ids∨(st.next≤id∧id<s1.next) then s1.heap.get id else st.heap.get id) →
   mk'=⟨Nat.lor mk.al bit,mk.lm,Nat.lor mk.sm bit,mk.hv,mk.hw,mk.ll,ids.map (fun id=>(bit,id)) ++ mk.ss⟩→(∀ i,T i↔s.heap.get i≠none)→StepOk P g n0 o gd bit pre tm st mk tm' st' mk' T
 | heavy (v:V) (s1:St):wantN tm gd=some true→okH mk pre=true→Spec P g o tm (setLow st st.next) v s1→tm'=putT tm o.dst v→st.next≤s1.low→st'=⟨s1.heap,s1.next,st.low⟩ →
   mk'=⟨Nat.lor mk.al bit,mk.lm,mk.sm,Nat.lor mk.hv bit,mk.hw,mk.ll,mk.ss⟩→(∀ i,T i↔st.heap.get i≠none)→StepOk P g n0 o gd bit pre tm st mk tm' st' mk' T
theorem okT_mem {mk:Mk}{n0 pre:Nat}:∀ {l:List Nat},okT mk n0 pre l=true→∀ id,id∈l→okS mk n0 pre id=true
 | [],_,id,h=>by cases h
 | i :: l,h,id,hm=>by
  obtain ⟨h1,h2⟩:=and'_true (show and' (okS mk n0 pre i) (okT mk n0 pre l)=true from h)
  rcases List.mem_cons.1 hm with rfl | hm
  ·exact h1
  ·exact okT_mem h2 id hm
theorem grow_low {st s1 st':St} (h:Grow (setLow st st.next) s1) (e:st'=⟨s1.heap,s1.next,min st.low s1.low⟩∨(st.next≤s1.low∧st'=⟨s1.heap,s1.next,st.low⟩)):Grow st st':=by
 have hh:st'.heap=s1.heap∧st'.next=s1.next∧st'.low≤st.low∧(∀ id,id<st.next→id<st'.low→id<s1.low):=by
  rcases e with rfl | ⟨h1,rfl⟩
  ·exact ⟨rfl,rfl,Nat.min_le_left _ _,fun id _ h=>Nat.lt_of_lt_of_le h (Nat.min_le_right _ _)⟩
  ·exact ⟨rfl,rfl,Nat.le_refl _,fun id h _=>Nat.lt_of_lt_of_le h h1⟩
 obtain ⟨e1,e2,e3,e4⟩:=hh
 refine ⟨by rw [e2];exact h.next,e3,fun id h1 h2=>by rw [e1];exact h.old id h1 (e4 id h1 h2),fun id h1 h2=>by rw [e1];exact h.gone id h1 h2,fun id b h1 h2=>h.keepOwn id b h1 (by rw [← e1];exact h2),fun hw id b h1 h2=>h.newOwn hw id b h1 (by rw [← e1];exact h2),fun hw id h1=>by rw [e1];exact h.wf hw id (by rw [← e2];exact h1)⟩
noncomputable def oneBlk (st:St) (id:Nat) (b:Blk):St:=⟨PM.set (id+1) .leaf id (some b),st.next,st.low⟩
theorem oneBlk_get (st:St) (id:Nat) (b:Blk) (i:Nat):(oneBlk st id b).heap.get i=if i=id then some b else none:=by
 show (PM.set (id+1) .leaf id (some b)).get i=_
 rw [PM.get_set _ _ _ _ _ (by omega)];simp
theorem StepOk.grow {P:Program}{g n0:Nat}{o:Oper}{gd:Option (Nat×Bool)}{bit pre:Nat}{tm tm':Ev}{st st':St}{mk mk':Mk}{T:Nat→Prop} (h:StepOk P g n0 o gd bit pre tm st mk tm' st' mk' T):Grow st st':=by
 cases h with
 | skip h1 h2 h3 h4 h5=>subst h3;exact Grow.refl _
 | pure v h1 h2 h3 h4 h5 h6=>subst h4;exact Grow.refl _
 | new nb v h1 h2 h3 h4 h5 h6=>subst h4;exact grow_new st h2.1
 | load id b v re h1 h2 h3 h4 h5 h6 h7 h8 h9 hA=>subst h6;exact Grow.refl _
 | store id b b' h1 h2 h3 h4 h5 h6 h7 h8=>subst h6;exact grow_put h2 (by rw [h3.1,h3.2.1])
 | wrote v s1 h1 h2 h3 h4 h5 h6 h7 h8 h9=>exact grow_low h3.1 (.inl h7)
 | touch v ids s s1 h1 h2 h3 h4 h5 h6 h7 h8 h9 hA hB hC hD=>exact h9
 | heavy v s1 h1 h2 h3 h4 h5 h6 h7 h8=>exact grow_low h3.1 (.inr ⟨h5,h6⟩)
theorem StepOk.abs {P:Program}{g n0:Nat}{o:Oper}{gd:Option (Nat×Bool)}{bit pre:Nat}{tm tm':Ev}{st st':St}{mk mk':Mk}{T:Nat→Prop}{H:Nat→Option Blk→Prop} (hw:WfS st) (h:StepOk P g n0 o gd bit pre tm st mk tm' st' mk' T) (hH:∀ id b v re,mk'.ll=⟨bit,id,re⟩ :: mk.ll→okL2 mk n0 pre id=true→st'=st→st.heap.get id=some b→LSpec P g o tm id b v→ReOk P g o tm id v re→(∀ e,e∈mk.hw→sub' e.bit pre=true∨id<e.lw∨Same re e.sn)→∀ ob,H id ob→∃ b,ob=some b∧LSpec P g o tm id b v):AStep P g o gd tm st tm' st' T H:=by
 have hgrow:=h.grow
 cases h with
 | skip h1 h2 h3 h4 h5=>exact .skip h1 h2 h3 h5
 | pure v h1 h2 h3 h4 h5 h6 =>
  subst h4
  refine .run v ⟨.leaf,st'.next,st'.low⟩ ⟨.leaf,st'.next,st'.low⟩ h1 h3 (Grow.refl _) (h2.spec _) rfl rfl (fun id b hb=>?_) (fun _ _ _=>rfl) (fun id hid=>?_) (.inl (Nat.le_refl _)) (fun id=>⟨fun h=>absurd h (h6 id),fun h=>absurd rfl h⟩)
  ·simp at hb
  ·rcases hid with hid | hid
   ·rw [hw id hid];rfl
   ·exact absurd rfl hid
 | new nb v h1 h2 h3 h4 h5 h6 =>
  subst h4
  refine .run v ⟨.leaf,st.next,st.low⟩ (newBlk ⟨.leaf,st.next,st.low⟩ nb) h1 h3 hgrow (ASpec.spec ⟨.leaf,st.next,st.low⟩ h2) rfl rfl (fun id b hb=>?_) (fun id hid _=>?_) (fun id hid=>?_) (.inl (Nat.le_refl _)) (fun id=>⟨fun h=>absurd h (h6 id),fun h=>absurd rfl h⟩)
  ·simp at hb
  ·rw [newBlk_get,if_neg (by omega)]
  ·rcases hid with hid | hid
   ·rw [newBlk_get,newBlk_get,hw id hid];rfl
   ·exact absurd rfl hid
 | load id b v re h1 h2 h3 h4 h5 h6 h7 h8 h9 hA=>exact .loose id v h1 h5 h6 h8 (hH id b v re (by rw [h7]) h4 h6 h2 h3 h9 hA)
 | store id b b' h1 h2 h3 h4 h5 h6 h7 h8 =>
  subst h6
  have hone:(oneBlk st id b).heap.get id=some b:=by rw [oneBlk_get,if_pos rfl]
  refine .run undefV (oneBlk st id b) (putBlk (oneBlk st id b) id (some b')) h1 h5 hgrow (h3.spec _ hone) rfl rfl (fun i c hc=>?_) (fun i _ hn=>?_) (fun i hi=>?_) (.inl (Nat.le_refl _)) (fun i=>?_)
  ·rw [oneBlk_get] at hc
   by_cases hi:i=id
   ·subst hi;rw [if_pos rfl] at hc;cases hc;exact h2
   ·rw [if_neg hi] at hc;cases hc
  ·rw [oneBlk_get] at hn
   by_cases hi:i=id
   ·rw [if_pos hi] at hn;cases hn
   ·rw [putBlk_get,if_neg hi]
  ·rw [putBlk_get,putBlk_get]
   rw [oneBlk_get] at hi ⊢
   by_cases hii:i=id
   ·rw [if_pos hii,if_pos hii]
   ·rw [if_neg hii] at hi
    rw [if_neg hii,if_neg hii,if_neg hii]
    rcases hi with hi | hi
    ·exact hw i hi
    ·exact absurd rfl hi
  ·rw [h8,oneBlk_get]
   by_cases hi:i=id <;> simp [hi]
 | wrote v s1 h1 h2 h3 h4 h5 h6 h7 h8 h9 =>
  subst h7
  exact .run v (setLow st st.next) s1 h1 h4 hgrow h3 rfl rfl (fun _ _ h=>h) (fun id hid hn=>(h3.1.gone id hid hn).trans (show none=st.heap.get id from hn.symm)) (fun _ _=>rfl) (.inl (Nat.min_le_right _ _)) h9
 | touch v ids s s1 h1 h2 h3 h4 h5 h6 h7 h8 h9 hA hB hC hD =>
  have hws:WfS s:=fun id hid=>by
   rw [hA];split
   ·exact hw id (by rw [← h5];exact hid)
   ·rfl
  refine .run v s s1 h1 h4 h9 h3 h5 h6 (fun id b hb=>?_) (fun id hid hn=>?_) (fun id hid=>?_) (.inl (Nat.le_of_eq h7)) hD
  ·rw [hA] at hb;split at hb
   ·exact hb
   ·cases hb
  ·rw [hB];split
   ·rename_i hc
    rcases hc with hc | hc
    ·rw [hA,if_pos hc] at hn
     rw [hn];exact h3.1.gone id (by rw [h5];exact hid) (by rw [hA,if_pos hc];exact hn)
    ·omega
   ·rfl
  ·rw [hB];split
   ·rfl
   ·rename_i hc
    rcases hid with hid | hid
    ·rw [hw id hid]
     refine (h3.1.wf hws id ?_).symm
     refine Classical.byContradiction fun hh=>hc (.inr ⟨hid,by omega⟩)
    ·rw [hA] at hid;split at hid
     ·rename_i hm;exact absurd (.inl hm) hc
     ·exact absurd rfl hid
 | heavy v s1 h1 h2 h3 h4 h5 h6 h7 h8 =>
  subst h6
  exact .run v (setLow st st.next) s1 h1 h4 hgrow h3 rfl rfl (fun _ _ h=>h) (fun id hid hn=>(h3.1.gone id hid hn).trans (show none=st.heap.get id from hn.symm)) (fun _ _=>rfl) (.inr h5) h8
theorem StepOk.keep {P:Program}{g n0:Nat}{o:Oper}{gd:Option (Nat×Bool)}{bit pre:Nat}{tm tm':Ev}{st st':St}{mk mk':Mk}{T:Nat→Prop} (h:StepOk P g n0 o gd bit pre tm st mk tm' st' mk' T):(∀ i,mk.al.testBit i=true→mk'.al.testBit i=true)∧(∀ i,mk.lm.testBit i=true→mk'.lm.testBit i=true)∧(∀ i,mk.sm.testBit i=true→mk'.sm.testBit i=true) ∧
  (∀ i,mk.hv.testBit i=true→mk'.hv.testBit i=true)∧(∀ x,x∈mk.hw→x∈mk'.hw)∧(∀ x,x∈mk.ll→x∈mk'.ll)∧(∀ x,x∈mk.ss→x∈mk'.ss):=by
 cases h with
 | skip h1 h2 h3 h4 h5=>rw [h4];exact ⟨fun _ h=>h,fun _ h=>h,fun _ h=>h,fun _ h=>h,fun _ h=>h,fun _ h=>h,fun _ h=>h⟩
 | pure v h1 h2 h3 h4 h5 h6=>rw [h5];exact ⟨fun _ h=>h,fun _ h=>h,fun _ h=>h,fun _ h=>h,fun _ h=>h,fun _ h=>h,fun _ h=>h⟩
 | new nb v h1 h2 h3 h4 h5 h6=>rw [h5];exact ⟨fun _ h=>lor_left h,fun _ h=>h,fun _ h=>h,fun _ h=>h,fun _ h=>h,fun _ h=>h,fun _ h=>h⟩
 | load id b v re h1 h2 h3 h4 h5 h6 h7 h8 h9 hA=>rw [h7];exact ⟨fun _ h=>h,fun _ h=>lor_left h,fun _ h=>h,fun _ h=>h,fun _ h=>h,fun _ h=>.tail _ h,fun _ h=>h⟩
 | store id b b' h1 h2 h3 h4 h5 h6 h7 h8=>rw [h7];exact ⟨fun _ h=>h,fun _ h=>h,fun _ h=>lor_left h,fun _ h=>h,fun _ h=>h,fun _ h=>h,fun _ h=>.tail _ h⟩
 | wrote v s1 h1 h2 h3 h4 h5 h6 h7 h8 h9=>rw [h8];exact ⟨fun _ h=>lor_left h,fun _ h=>h,fun _ h=>h,fun _ h=>lor_left h,fun _ h=>.tail _ h,fun _ h=>h,fun _ h=>h⟩
 | touch v ids s s1 h1 h2 h3 h4 h5 h6 h7 h8 h9 hA hB hC hD=>rw [hC];exact ⟨fun _ h=>lor_left h,fun _ h=>h,fun _ h=>lor_left h,fun _ h=>h,fun _ h=>h,fun _ h=>h,fun _ h=>List.mem_append_right _ h⟩
 | heavy v s1 h1 h2 h3 h4 h5 h6 h7 h8=>rw [h7];exact ⟨fun _ h=>lor_left h,fun _ h=>h,fun _ h=>h,fun _ h=>lor_left h,fun _ h=>h,fun _ h=>h,fun _ h=>h⟩
structure Seen (SS:Nat→St) (T:Nat→Nat→Prop) (ord:Nat→Nat) (p:Nat) (mk:Mk):Prop where
 ch:∀ q,q<p→∀ id,Ch SS q id→((SS q).next≤id∧mk.al.testBit (ord q)=true)∨(mk.sm.testBit (ord q)=true∧(2 ^ ord q,id)∈mk.ss)∨((∃ e,e∈mk.hw∧e.bit=2 ^ ord q∧e.lw≤id∧e.sn=SS q)∧mk.hv.testBit (ord q)=true)
 tc:∀ q,q<p→∀ id,T q id→(mk.sm.testBit (ord q)=true∧(2 ^ ord q,id)∈mk.ss)∨mk.hv.testBit (ord q)=true
section
variable {P:Program}{g n N n0:Nat}{opAt:Nat→Oper}{gd:Nat→Option (Nat×Bool)}{TM:Nat→Ev}{SS:Nat→St}{MK:Nat→Mk}{T:Nat→Nat→Prop}{ord pre:Nat→Nat}
theorem Seen.step {p:Nat}{o:Oper}{gd:Option (Nat×Bool)}{pr:Nat}{tm tm':Ev} (hw:WfS (SS p)) (hI:Seen SS T ord p (MK p)) (h:StepOk P g n0 o gd (2 ^ ord p) pr tm (SS p) (MK p) tm' (SS (p+1)) (MK (p+1)) (T p)):Seen SS T ord (p+1) (MK (p+1)):=by
 have hgrow:=h.grow
 have keep:=h.keep
 obtain ⟨k1,k2,k3,k4,k5,k6,k7⟩:=keep
 have hout:∀ id,(SS (p+1)).next≤id→(SS (p+1)).heap.get id=(SS p).heap.get id:=fun id hid=>by
  rw [hw id (Nat.le_trans hgrow.next hid),hgrow.wf hw id hid]
 refine ⟨fun q hq id hc=>?_,fun q hq id ht=>?_⟩
 ·by_cases hqp:q=p
  ·subst hqp
   cases h with
   | skip h1 h2 h3 h4 h5=>rcases hc with hc | hc <;> rw [h3] at hc <;> first | omega | exact absurd rfl hc
   | pure v h1 h2 h3 h4 h5 h6=>rcases hc with hc | hc <;> rw [h4] at hc <;> first | omega | exact absurd rfl hc
   | new nb v h1 h2 h3 h4 h5 h6 =>
    refine .inl ⟨?_,by rw [h5];exact lor_bit⟩
    rcases hc with hc | hc
    ·exact hc.1
    ·rw [h4,newBlk_get] at hc
     by_cases hid:id=(SS q).next
     ·omega
     ·rw [if_neg hid] at hc;exact absurd rfl hc
   | load i b v re h1 h2 h3 h4 h5 h6 h7 h8 h9 hA=>rcases hc with hc | hc <;> rw [h6] at hc <;> first | omega | exact absurd rfl hc
   | store i b b' h1 h2 h3 h4 h5 h6 h7 h8 =>
    refine .inr (.inl ⟨by rw [h7];exact lor_bit, ?_⟩)
    have:id=i:=by
     rcases hc with hc | hc
     ·rw [h6] at hc;exact absurd hc.2 (by show ¬ id<(SS q).next;omega)
     ·rw [h6,putBlk_get] at hc
      by_cases hid:id=i
      ·exact hid
      ·rw [if_neg hid] at hc;exact absurd rfl hc
    rw [h7,this];exact .head _
   | wrote v s1 h1 h2 h3 h4 h5 h6 h7 h8 h9 =>
    refine .inr (.inr ⟨⟨⟨2 ^ ord q,s1.low,SS q⟩,by rw [h8];exact .head _,rfl, ?_,rfl⟩,by rw [h8];exact lor_bit⟩)
    show s1.low≤id
    refine Classical.byContradiction fun hlt=>?_
    rcases hc with hc | hc
    ·omega
    ·refine hc ?_
     rw [h7]
     exact h3.1.old id (by show id<(SS q).next;omega) (by omega)
   | touch v ids s s1 h1 h2 h3 h4 h5 h6 h7 h8 h9 hA hB hC hD =>
    have hmem:id∈ids→(2 ^ ord q,id)∈(MK (q+1)).ss:=fun hm=>by rw [hC];exact List.mem_append_left _ (List.mem_map.2 ⟨id,hm,rfl⟩)
    have hal:(MK (q+1)).al.testBit (ord q)=true:=by rw [hC];exact lor_bit
    have hsm:(MK (q+1)).sm.testBit (ord q)=true:=by rw [hC];exact lor_bit
    rcases hc with hc | hc
    ·exact .inl ⟨hc.1,hal⟩
    ·rw [hB] at hc;split at hc
     ·rename_i hh
      rcases hh with hh | hh
      ·exact .inr (.inl ⟨hsm,hmem hh⟩)
      ·exact .inl ⟨hh.1,hal⟩
     ·exact absurd rfl hc
   | heavy v s1 h1 h2 h3 h4 h5 h6 h7 h8 =>
    refine .inl ⟨?_,by rw [h7];exact lor_bit⟩
    rcases hc with hc | hc
    ·exact hc.1
    ·refine Classical.byContradiction fun hn=>hc ?_
     rw [h6]
     exact h3.1.old id (by show id<(SS q).next;omega) (by omega)
  ·rcases hI.ch q (by omega) id hc with ⟨a,b⟩ | ⟨a,b⟩ | ⟨a,b⟩
   ·exact .inl ⟨a,k1 _ b⟩
   ·exact .inr (.inl ⟨k3 _ a,k7 _ b⟩)
   ·obtain ⟨e,a1,a2⟩:=a;exact .inr (.inr ⟨⟨e,k5 _ a1,a2⟩,k4 _ b⟩)
 ·by_cases hqp:q=p
  ·subst hqp
   cases h with
   | skip h1 h2 h3 h4 h5=>exact absurd ht (h5 id)
   | pure v h1 h2 h3 h4 h5 h6=>exact absurd ht (h6 id)
   | new nb v h1 h2 h3 h4 h5 h6=>exact absurd ht (h6 id)
   | load i b v re h1 h2 h3 h4 h5 h6 h7 h8 h9 hA=>exact absurd ht (h8 id)
   | store i b b' h1 h2 h3 h4 h5 h6 h7 h8=>exact .inl ⟨by rw [h7];exact lor_bit,by rw [h7,(h8 id).1 ht];exact .head _⟩
   | wrote v s1 h1 h2 h3 h4 h5 h6 h7 h8 h9=>exact .inr (by rw [h8];exact lor_bit)
   | touch v ids s s1 h1 h2 h3 h4 h5 h6 h7 h8 h9 hA hB hC hD =>
    have:=(hD id).1 ht
    rw [hA] at this;split at this
    ·rename_i hm
     exact .inl ⟨by rw [hC];exact lor_bit,by rw [hC];exact List.mem_append_left _ (List.mem_map.2 ⟨id,hm,rfl⟩)⟩
    ·exact absurd rfl this
   | heavy v s1 h1 h2 h3 h4 h5 h6 h7 h8=>exact .inr (by rw [h7];exact lor_bit)
  ·rcases hI.tc q (by omega) id ht with ⟨a,b⟩ | b
   ·exact .inl ⟨k3 _ a,k7 _ b⟩
   ·exact .inr (k4 _ b)
theorem okL2_cases {mk:Mk}{n0 pre id:Nat} (h:okL2 mk n0 pre id=true):(sub' mk.al pre=true∨id<n0)∧(sub' mk.sm pre=true∨clear pre id mk.ss=true):=by
 obtain ⟨h3,h4⟩:=and'_true h
 exact ⟨(or'_true h3).imp (fun h=>h) blt_of,or'_true h4⟩
theorem okS_cases {mk:Mk}{n0 pre id:Nat} (h:okS mk n0 pre id=true):sub' mk.hv pre=true∧(sub' mk.al pre=true∨id<n0)∧(sub' mk.sm pre=true∨clear pre id mk.ss=true)∧(sub' mk.lm pre=true∨clearL pre id mk.ll=true):=by
 obtain ⟨h1,h2⟩:=and'_true h
 obtain ⟨h3,h4⟩:=and'_true h2
 obtain ⟨h5,h6⟩:=and'_true h4
 exact ⟨h1,(or'_true h3).imp (fun h=>h) blt_of,or'_true h5,or'_true h6⟩
theorem okH_cases {mk:Mk}{pre:Nat} (h:okH mk pre=true):allIn pre mk.hw=true∧sub' mk.sm pre=true∧sub' mk.al pre=true:=by
 obtain ⟨h1,h2⟩:=and'_true h
 obtain ⟨h3,h4⟩:=and'_true h2
 exact ⟨h1,h3,h4⟩
theorem run_of (hn0:(SS 0).next=n0) (hw:WfS (SS 0)) (hmk:MK 0=⟨0,0,0,0,[],[],[]⟩)
  (hstep:∀ p,p<N→StepOk P g n0 (opAt p) (gd p) (2 ^ ord p) (pre p) (TM p) (SS p) (MK p) (TM (p+1)) (SS (p+1)) (MK (p+1)) (T p))
  (hdst:∀ q p,q<N→p<N→q≠p→∀ d,(opAt q).dst=some d→(opAt p).dst≠some d)
  (hreads:∀ q p,q<N→p<N→q≠p→∀ d,(opAt q).dst=some d→(Operand.tmp d∈(opAt p).op.operands∨∃ w,gd p=some (d,w))→(q<p∧(pre p).testBit (ord q)=true)∨(p<q∧(pre q).testBit (ord p)=true))
  (hdn:∀ p,p<N→dstOk n (opAt p).dst=true):Run P g n N opAt gd TM SS T (fun p q=>(pre p).testBit (ord q)=true):=by
 have hgrow:∀ p,p≤N→Grow (SS 0) (SS p):=by
  intro p
  induction p with
  | zero=>intro _;exact Grow.refl _
  | succ p ih=>intro hp;exact (ih (by omega)).trans (hstep p (by omega)).grow
 have hwf:∀ p,p≤N→WfS (SS p):=fun p hp=>(hgrow p hp).wf hw
 have R0:Run P g n N opAt gd TM SS T (fun _ _=>True):=⟨fun p hp=>(hstep p hp).abs (hwf p (Nat.le_of_lt hp)) fun id b v re _ _ _ hb hL _ _ ob ⟨k,hk,hc,he⟩=>⟨b,by
   rw [← he,← hb]
   exact cut_eq (N:=N) (S:=fun _=>True) hk (Nat.le_of_lt hp) ⟨fun _ _ _=>trivial,fun j h1 h2 hch _=>hc.2 j h1 h2 hch trivial⟩ ⟨fun _ _ _=>trivial,fun j h1 h2 hch _=>(Nat.lt_or_ge j k).elim (fun h=>hc.1 j h hch trivial) fun h=>hc.2 j h h2 hch trivial⟩,hL⟩,hw,fun _ _ _ _ _ _=>trivial,hdst,fun q p hq hp hne d _ _=>by
  rcases Nat.lt_or_gt_of_ne hne with h | h
  ·exact .inl ⟨h,trivial⟩
  ·exact .inr ⟨h,trivial⟩,hdn⟩
 have hseen:∀ p,p≤N→Seen SS T ord p (MK p):=by
  intro p
  induction p with
  | zero=>intro _;exact ⟨fun q hq=>absurd hq (by omega),fun q hq=>absurd hq (by omega)⟩
  | succ p ih=>intro hp;exact (ih (by omega)).step (hwf p (by omega)) (hstep p (by omega))
 have hlist:∀ p d,p+1+d≤N→∀ x,x∈(MK (p+1)).ll→x∈(MK (p+1+d)).ll:=by
  intro p d
  induction d with
  | zero=>intro _ x h;exact h
  | succ d ih=>intro hd x h;exact (hstep (p+1+d) (by omega)).keep.2.2.2.2.2.1 x (ih (by omega) x h)
 have hlm:∀ p d,p+1+d≤N→(MK (p+1)).lm.testBit (ord p)=true→(MK (p+1+d)).lm.testBit (ord p)=true:=by
  intro p d
  induction d with
  | zero=>intro _ h;exact h
  | succ d ih=>intro hd h;exact (hstep (p+1+d) (by omega)).keep.2.1 _ (ih (by omega) h)
 refine ⟨fun p hp=>(hstep p hp).abs (hwf p (Nat.le_of_lt hp)) ?_,hw, ?_,hdst,hreads,hdn⟩
 ·intro id b v re hll hok hst hb hL hre hsn ob ⟨k,hk,hc,he⟩
  subst he
  obtain ⟨a2,a3⟩:=okL2_cases hok
  have hidp:id<(SS p).next:=(hwf p (Nat.le_of_lt hp)).lt hb
  have I:=hseen p (Nat.le_of_lt hp)
  have hn0p:n0≤(SS p).next:=by rw [← hn0];exact (hgrow p (Nat.le_of_lt hp)).next
  rcases Nat.lt_or_ge p k with hpk | hpk
  ·
   have go:∀ m,p<m→m≤k→∃ b',(SS m).heap.get id=some b'∧LSpec P g (opAt p) (TM p) id b' v:=by
    intro m
    induction m with
    | zero=>intro h;omega
    | succ m ih =>
     intro hpm hmk
     by_cases hch:Ch SS m id
     ·by_cases hmp:m=p
      ·subst hmp
       rcases hch with h | h
       ·omega
       ·rw [hst] at h;exact absurd rfl h
      ·have hpm':p<m:=by omega
       have hnpre:(pre m).testBit (ord p)≠true:=hc.1 m (by omega) hch
       have hmem:(⟨2 ^ ord p,id,re⟩:LL)∈(MK m).ll:=by
        have:=hlist p (m - (p+1)) (by omega) ⟨2 ^ ord p,id,re⟩ (by rw [hll];exact .head _)
        rwa [show p+1+(m - (p+1))=m by omega] at this
       have hmlm:(MK m).lm.testBit (ord p)=true:=by
        have hp1:(MK (p+1)).lm.testBit (ord p)=true:=by
         have hs:=hstep p hp
         cases hs with
         | load i b' v' re' h1 h2 h3 h4 h5 h6 h7 h8 h9 hA=>rw [h7];exact lor_bit
         | skip h1 h2 h3 h4 h5=>rw [h4] at hll;exact absurd (congrArg List.length hll) (by simp)
         | pure v h1 h2 h3 h4 h5 h6=>rw [h5] at hll;exact absurd (congrArg List.length hll) (by simp)
         | new nb v h1 h2 h3 h4 h5 h6=>rw [h5] at hll;exact absurd (congrArg List.length hll) (by simp)
         | store i b b' h1 h2 h3 h4 h5 h6 h7 h8=>rw [h7] at hll;exact absurd (congrArg List.length hll) (by simp)
         | wrote v s1 h1 h2 h3 h4 h5 h6 h7 h8 h9=>rw [h8] at hll;exact absurd (congrArg List.length hll) (by simp)
         | touch v ids s s1 h1 h2 h3 h4 h5 h6 h7 h8 h9 hA hB hC hD=>rw [hC] at hll;exact absurd (congrArg List.length hll) (by simp)
         | heavy v s1 h1 h2 h3 h4 h5 h6 h7 h8=>rw [h7] at hll;exact absurd (congrArg List.length hll) (by simp)
        have:=hlm p (m - (p+1)) (by omega) hp1
        rwa [show p+1+(m - (p+1))=m by omega] at this
       have hidm:id<(SS m).next:=Nat.lt_of_lt_of_le hidp (R0.grow' (Nat.le_of_lt hpm') (by omega)).next
       have hnold:¬ ((SS m).next≤id∧id<(SS (m+1)).next):=by omega
       have hch':(SS (m+1)).heap.get id≠(SS m).heap.get id:=hch.resolve_left hnold
       have hstore:∀ i,okS (MK m) n0 (pre m) i=true→i=id→False:=fun i hs hi=>by
        subst hi
        obtain ⟨_,_,_,c⟩:=okS_cases hs
        rcases c with c | c
        ·exact hnpre (sub'_of c hmlm)
        ·exact hnpre (clearL_of c (ord p) _ hmem rfl rfl)
       cases hstep m (by omega) with
       | skip h1 h2 h3 h4 h5=>rw [h3] at hch';exact absurd rfl hch'
       | pure v h1 h2 h3 h4 h5 h6=>rw [h4] at hch';exact absurd rfl hch'
       | load i b' v' re' h1 h2 h3 h4 h5 h6 h7 h8 h9 hA=>rw [h6] at hch';exact absurd rfl hch'
       | new nb v h1 h2 h3 h4 h5 h6=>rw [h4,newBlk_get,if_neg (by omega)] at hch';exact absurd rfl hch'
       | store i b b' h1 h2 h3 h4 h5 h6 h7 h8 =>
        rw [h6,putBlk_get] at hch'
        by_cases hid:id=i
        ·exact absurd hid.symm (fun h=>hstore i h4 h)
        ·rw [if_neg hid] at hch';exact absurd rfl hch'
       | touch v ids s s1 h1 h2 h3 h4 h5 h6 h7 h8 h9 hA hB hC hD =>
        rw [hB] at hch';split at hch'
        ·rename_i hh
         rcases hh with hh | hh
         ·exact absurd rfl (fun h=>hstore id (okT_mem h2 id hh) h)
         ·omega
        ·exact absurd rfl hch'
       | heavy v s1 h1 h2 h3 h4 h5 h6 h7 h8 =>
        refine absurd ?_ hch'
        rw [h6]
        exact h3.1.old id hidm (by omega)
       | wrote v' s1 h1 h2 h3 h4 h5 h6 h7 h8 h9 =>
        rcases h6.2 with c | c
        ·exact absurd (sub'_of c hmlm) hnpre
        ·rcases c _ hmem with c | c | ⟨k0,x0,t0,u0,c⟩
         ·exact absurd (sub'_bit c) hnpre
         ·refine absurd ?_ hch'
          rw [h7]
          exact h3.1.old id hidm c
         ·rw [h7];exact (hre _ _ _ _ _ c).1
     ·have hsame:(SS (m+1)).heap.get id=(SS m).heap.get id:=Classical.byContradiction fun h=>hch (.inr h)
      rw [hsame]
      by_cases hmp:m=p
      ·subst hmp;exact ⟨b,hb,hL⟩
      ·exact ih (by omega) (by omega)
   obtain ⟨b',h1,h2⟩:=go k hpk (Nat.le_refl _)
   exact ⟨b',h1,h2⟩
  ·
   have go:∀ d,d≤p - k→∃ b',(SS (p - d)).heap.get id=some b'∧LSpec P g (opAt p) (TM p) id b' v:=by
    intro d
    induction d with
    | zero=>intro _;exact ⟨b,hb,hL⟩
    | succ d ih =>
     intro hd
     obtain ⟨b',h1,h2⟩:=ih (by omega)
     have hj:p - (d+1)+1=p - d:=by omega
     by_cases hch:Ch SS (p - (d+1)) id
     ·have hnpre:(pre p).testBit (ord (p - (d+1)))≠true:=hc.2 _ (by omega) (by omega) hch
      rcases I.ch (p - (d+1)) (by omega) id hch with ⟨b1,b2⟩ | ⟨b1,b2⟩ | ⟨⟨e,b1,b2,b3,b4⟩,_⟩
      ·rcases a2 with a2 | a2
       ·exact absurd (sub'_of a2 b2) hnpre
       ·have:n0≤(SS (p - (d+1))).next:=by rw [← hn0];exact (hgrow _ (by omega)).next
        omega
      ·rcases a3 with a3 | a3
       ·exact absurd (sub'_of a3 b1) hnpre
       ·exact absurd (clear_of a3 _ b2) hnpre
      ·rcases hsn e b1 with c | c | ⟨k0,x0,t0,u0,c⟩
       ·rw [b2] at c;exact absurd (sub'_bit c) hnpre
       ·omega
       ·have:=(hre _ _ _ _ _ c).1;rw [b4] at this;exact this
     ·have hsame:(SS (p - (d+1)+1)).heap.get id=(SS (p - (d+1))).heap.get id:=Classical.byContradiction fun h=>hch (.inr h)
      rw [hj] at hsame
      exact ⟨b',by rw [← hsame];exact h1,h2⟩
   obtain ⟨b',h1,h2⟩:=go (p - k) (Nat.le_refl _)
   rw [show p - (p - k)=k by omega] at h1
   exact ⟨b',h1,h2⟩
 intro q p hqp hp id h
 have hq:q<N:=Nat.lt_trans hqp hp
 have I:=hseen p (Nat.le_of_lt hp)
 have hnext:n0≤(SS q).next:=by rw [← hn0];exact (hgrow q (Nat.le_of_lt hq)).next
 have hlt:∀ id,T q id∨Ch SS q id→id<(SS p).next:=fun id h=>by
  have:id<(SS (q+1)).next:=by
   rcases h with h | h
   ·exact R0.mine_lt hq (.inl h)
   ·exact R0.mine_lt hq (R0.ch_mine hq h)
  exact Nat.lt_of_lt_of_le this (R0.grow' (show q+1≤p from hqp) (Nat.le_of_lt hp)).next
 have S:=hstep p hp
 cases S with
 | skip h1 h2 h3 h4 h5 =>
  rcases h with ⟨_,h⟩ | ⟨_,h⟩
  ·exact absurd h (h5 id)
  ·rcases h with h | h <;> rw [h3] at h <;> first | omega | exact absurd rfl h
 | pure v h1 h2 h3 h4 h5 h6 =>
  rcases h with ⟨_,h⟩ | ⟨_,h⟩
  ·exact absurd h (h6 id)
  ·rcases h with h | h <;> rw [h4] at h <;> first | omega | exact absurd rfl h
 | new nb v h1 h2 h3 h4 h5 h6 =>
  rcases h with ⟨_,h⟩ | ⟨hc,h⟩
  ·exact absurd h (h6 id)
  ·have:=hlt id hc
   rcases h with h | h
   ·omega
   ·rw [h4,newBlk_get,if_neg (by omega)] at h;exact absurd rfl h
 | load i b v re h1 h2 h3 h4 h5 h6 h7 h8 h9 hA =>
  rcases h with ⟨_,ht⟩ | ⟨_,h⟩
  ·exact absurd ht (h8 id)
  ·rcases h with h | h <;> rw [h6] at h <;> first | omega | exact absurd rfl h
 | store i b b' h1 h2 h3 h4 h5 h6 h7 h8 =>
  obtain ⟨a1,a2,a3,a4⟩:=okS_cases h4
  have key:∀ id,id=i→T q id∨Ch SS q id→(pre p).testBit (ord q)=true:=by
   intro id hid hc
   subst hid
   rcases hc with hc | hc
   ·rcases I.tc q hqp id hc with ⟨b1,b2⟩ | b1
    ·rcases a3 with a3 | a3
     ·exact sub'_of a3 b1
     ·exact clear_of a3 _ b2
    ·exact sub'_of a1 b1
   ·rcases I.ch q hqp id hc with ⟨b1,b2⟩ | ⟨b1,b2⟩ | ⟨b1,b2⟩
    ·rcases a2 with a2 | a2
     ·exact sub'_of a2 b2
     ·omega
    ·rcases a3 with a3 | a3
     ·exact sub'_of a3 b1
     ·exact clear_of a3 _ b2
    ·exact sub'_of a1 b2
  rcases h with ⟨hc,ht⟩ | ⟨hc,h⟩
  ·exact key id ((h8 id).1 ht) (.inr hc)
  ·refine key id ?_ hc
   rcases h with h | h
   ·rw [h6] at h;exact absurd h.2 (by show ¬ id<(SS p).next;omega)
   ·rw [h6,putBlk_get] at h
    by_cases hid:id=i
    ·exact hid
    ·rw [if_neg hid] at h;exact absurd rfl h
 | wrote v s1 h1 h2 h3 h4 h5 h6 h7 h8 h9 =>
  obtain ⟨a1,a2,a3⟩:=okH_cases h2
  obtain ⟨a4,a5⟩:=h6
  have hchg:∀ id,Ch SS q id→(pre p).testBit (ord q)=true:=fun id hc=>by
   rcases I.ch q hqp id hc with ⟨b1,b2⟩ | ⟨b1,b2⟩ | ⟨⟨e,b1,b3,_⟩,b2⟩
   ·exact sub'_of a3 b2
   ·exact sub'_of a2 b1
   ·exact allIn_of a1 _ e b1 b3
  rcases h with ⟨hc,_⟩ | ⟨hc | hc,hch⟩
  ·exact hchg id hc
  ·rcases I.tc q hqp id hc with ⟨b1,b2⟩ | b1
   ·exact sub'_of a2 b1
   ·exact sub'_of a4 b1
  ·exact hchg id hc
 | touch v ids s s1 h1 h2 h3 h4 h5 h6 h7 h8 h9 hA hB hC hD =>
  have key:∀ id,id∈ids→T q id∨Ch SS q id→(pre p).testBit (ord q)=true:=by
   intro id hid hc
   obtain ⟨a1,a2,a3,a4⟩:=okS_cases (okT_mem h2 id hid)
   rcases hc with hc | hc
   ·rcases I.tc q hqp id hc with ⟨b1,b2⟩ | b1
    ·rcases a3 with a3 | a3
     ·exact sub'_of a3 b1
     ·exact clear_of a3 _ b2
    ·exact sub'_of a1 b1
   ·rcases I.ch q hqp id hc with ⟨b1,b2⟩ | ⟨b1,b2⟩ | ⟨b1,b2⟩
    ·rcases a2 with a2 | a2
     ·exact sub'_of a2 b2
     ·omega
    ·rcases a3 with a3 | a3
     ·exact sub'_of a3 b1
     ·exact clear_of a3 _ b2
    ·exact sub'_of a1 b2
  rcases h with ⟨hc,ht⟩ | ⟨hc,h⟩
  ·have:=(hD id).1 ht
   rw [hA] at this;split at this
   ·rename_i hm;exact key id hm (.inr hc)
   ·exact absurd rfl this
  ·have hl:=hlt id hc
   rcases h with h | h
   ·omega
   ·rw [hB] at h;split at h
    ·rename_i hh
     rcases hh with hh | hh
     ·exact key id hh hc
     ·omega
    ·exact absurd rfl h
 | heavy v s1 h1 h2 h3 h4 h5 h6 h7 h8 =>
  obtain ⟨a1,a2,a3⟩:=okH_cases h2
  have hchg:∀ id,Ch SS q id→(pre p).testBit (ord q)=true:=fun id hc=>by
   rcases I.ch q hqp id hc with ⟨b1,b2⟩ | ⟨b1,b2⟩ | ⟨b1,b2⟩
   ·exact sub'_of a3 b2
   ·exact sub'_of a2 b1
   ·obtain ⟨e,b1,b3,_⟩:=b1;exact allIn_of a1 _ e b1 b3
  rcases h with ⟨hc,_⟩ | ⟨hc,h⟩
  ·exact hchg id hc
  ·rcases hc with hc | hc
   ·have hl:=hlt id (.inl hc)
    rcases h with h | h
    ·omega
    ·refine absurd ?_ h
     rw [h6]
     exact h3.1.old id (show id<(SS p).next from hl) (by omega)
   ·exact hchg id hc
end
end
section
set_option linter.unusedSectionVars false
variable [LoopP]
theorem mkA_eq (mk:Mk) (bit:Nat) (K:Mk→R):mkA mk bit K=K ⟨Nat.lor mk.al bit,mk.lm,mk.sm,mk.hv,mk.hw,mk.ll,mk.ss⟩:=by
 cases mk;simp only [mkA,mkL,mkS,seqN_eq]
theorem mkL_eq (mk:Mk) (bit id:Nat) (re:St→R→R) (K:Mk→R):mkL mk bit id re K=K ⟨mk.al,Nat.lor mk.lm bit,mk.sm,mk.hv,mk.hw,⟨bit,id,re⟩ :: mk.ll,mk.ss⟩:=by
 cases mk;simp only [mkA,mkL,mkS,seqN_eq]
theorem mkS_eq (mk:Mk) (bit id:Nat) (K:Mk→R):mkS mk bit id K=K ⟨mk.al,mk.lm,Nat.lor mk.sm bit,mk.hv,mk.hw,mk.ll,(bit,id) :: mk.ss⟩:=by
 cases mk;simp only [mkA,mkL,mkS,seqN_eq]
theorem mkH_eq (mk:Mk) (bit:Nat) (K:Mk→R):mkH mk bit K=K ⟨Nat.lor mk.al bit,mk.lm,mk.sm,Nat.lor mk.hv bit,mk.hw,mk.ll,mk.ss⟩:=by
 cases mk;simp only [mkH,seqN_eq]
theorem mkW_eq (mk:Mk) (bit lw:Nat) (sn:St) (K:Mk→R):mkW mk bit lw sn K=K ⟨Nat.lor mk.al bit,mk.lm,mk.sm,Nat.lor mk.hv bit,⟨bit,lw,sn⟩ :: mk.hw,mk.ll,mk.ss⟩:=by
 cases mk;simp only [mkW,seqN_eq]
theorem twI_eq:∀ {a b:Int},twI a b=true→a=b
 | .ofNat m,.ofNat n,h=>by rw [Nat.eq_of_beq_eq_true h]
 | .negSucc m,.negSucc n,h=>by rw [Nat.eq_of_beq_eq_true h]
 | .ofNat _,.negSucc _,h=>by cases h
 | .negSucc _,.ofNat _,h=>by cases h
theorem twO_eq:∀ {a b:Option Nat},twO a b=true→a=b
 | none,none,_=>rfl
 | some m,some n,h=>by rw [Nat.eq_of_beq_eq_true h]
 | none,some _,h=>by cases h
 | some _,none,h=>by cases h
theorem iteB_and {a b:Bool} (h:iteB a b false=true):a=true∧b=true:=by cases a <;> cases b <;> first | exact ⟨rfl,rfl⟩ | cases h
theorem twS_eq:∀ {a b:S},twS a b=true→a=b:=by
 intro a
 induction a with
 | cap x f ih1 ih2 =>
  intro b h
  cases b <;> simp only [twS] at h <;> first | cases h | skip
  obtain ⟨h1,h2⟩:=iteB_and h
  rw [ih1 h1,ih2 h2]
 | bool x=>intro b h;cases b <;> simp only [twS] at h <;> first | cases h | (rw [beq_iff_eq.1 h])
 | int k x =>
  intro b h;cases b <;> simp only [twS] at h <;> first | cases h | skip
  obtain ⟨h1,h2⟩:=iteB_and h
  rw [of_decide_eq_true h1,twI_eq h2]
 | ptr i o =>
  intro b h;cases b <;> simp only [twS] at h <;> first | cases h | skip
  obtain ⟨h1,h2⟩:=iteB_and h
  rw [Nat.eq_of_beq_eq_true h1,Nat.eq_of_beq_eq_true h2]
 | slice i o l c z =>
  intro b h;cases b <;> simp only [twS] at h <;> first | cases h | skip
  obtain ⟨h1,h⟩:=iteB_and h
  obtain ⟨h2,h⟩:=iteB_and h
  obtain ⟨h3,h⟩:=iteB_and h
  obtain ⟨h4,h⟩:=iteB_and h
  rw [Nat.eq_of_beq_eq_true h1,Nat.eq_of_beq_eq_true h2,Nat.eq_of_beq_eq_true h3,twO_eq h4,Nat.eq_of_beq_eq_true h]
 | fn f=>intro b h;cases b <;> simp only [twS] at h <;> first | cases h | (rw [Nat.eq_of_beq_eq_true h])
 | yld f=>intro b h;cases b <;> simp only [twS] at h <;> first | cases h | (rw [Nat.eq_of_beq_eq_true h])
 | map f=>intro b h;cases b <;> simp only [twS] at h <;> first | cases h | (rw [Nat.eq_of_beq_eq_true h])
 | nils=>intro b h;cases b <;> simp only [twS] at h <;> first | rfl | cases h
 | esl=>intro b h;cases b <;> simp only [twS] at h <;> first | rfl | cases h
 | nilp=>intro b h;cases b <;> simp only [twS] at h <;> first | rfl | cases h
 | lit v=>intro b h;cases b <;> simp only [twS] at h <;> cases h
 | iface t x ih=>intro b h;cases b <;> simp only [twS] at h <;> cases h
 | mth n t x ih=>intro b h;cases b <;> simp only [twS] at h <;> cases h
theorem twSs_eq:∀ {a b:List S},twSs a b=true→a=b
 | [],[],_=>rfl
 | x :: l,y :: r,h=>by
  obtain ⟨h1,h2⟩:=iteB_and (show iteB (twS x y) (twSs l r) false=true by simpa only [twSs] using h)
  rw [twS_eq h1,twSs_eq h2]
 | [],_ :: _,h=>by simp only [twSs] at h;cases h
 | _ :: _,[],h=>by simp only [twSs] at h;cases h
theorem twV_eq {a b:V} (h:twV a b=true):a=b:=by
 cases a <;> cases b <;> first | (rw [twS_eq h]) | (rw [twSs_eq h]) | cases h
theorem twK_done {a b:V}{k:R}{x:X}{tf:PM V}{sf:St} (h:twK a b k=.done x tf sf):a=b∧k=.done x tf sf:=by
 obtain ⟨h1,h2⟩:=ite_done h
 exact ⟨twV_eq h1,h2⟩
theorem lsL_done {pre id:Nat}{re:St→R→R} (hre:∀ s k x tf sf,re s k=.done x tf sf→k=.done x tf sf):∀ {l:List HW}{k:R}{x:X}{tf:PM V}{sf:St},lsL pre id re l k=.done x tf sf→k=.done x tf sf∧∀ e,e∈l→sub' e.bit pre=true∨id<e.lw∨Same re e.sn
 | [],k,x,tf,sf,h=>⟨h,fun e he=>by cases he⟩
 | a :: l,k,x,tf,sf,h=>by
  have h':iteB (or' (sub' a.bit pre) (Nat.blt id a.lw)) (lsL pre id re l k) (re a.sn (lsL pre id re l k))=.done x tf sf:=h
  rw [iteB_eq] at h'
  split at h'
  ·rename_i hc
   obtain ⟨h1,h2⟩:=lsL_done hre h'
   refine ⟨h1,fun e he=>?_⟩
   rcases List.mem_cons.1 he with rfl | he
   ·exact (or'_true hc).imp (fun h=>h) fun h=>.inl (blt_of h)
   ·exact h2 e he
  ·obtain ⟨h1,h2⟩:=lsL_done hre (hre _ _ _ _ _ h')
   refine ⟨h1,fun e he=>?_⟩
   rcases List.mem_cons.1 he with rfl | he
   ·exact .inr (.inr ⟨_,_,_,_,h'⟩)
   ·exact h2 e he
theorem lsW_done {pre lw:Nat}{st:St}:∀ {l:List LL},(∀ e,e∈l→∀ s k x tf sf,e.re s k=.done x tf sf→k=.done x tf sf)→∀ {k:R}{x:X}{tf:PM V}{sf:St},lsW pre lw st l k=.done x tf sf→k=.done x tf sf∧∀ e,e∈l→sub' e.bit pre=true∨e.id<lw∨Same e.re st
 | [],_,k,x,tf,sf,h=>⟨h,fun e he=>by cases he⟩
 | a :: l,hre,k,x,tf,sf,h=>by
  have h':iteB (or' (sub' a.bit pre) (Nat.blt a.id lw)) (lsW pre lw st l k) (a.re st (lsW pre lw st l k))=.done x tf sf:=h
  have hre':∀ e,e∈l→∀ s k x tf sf,e.re s k=.done x tf sf→k=.done x tf sf:=fun e he=>hre e (.tail _ he)
  rw [iteB_eq] at h'
  split at h'
  ·rename_i hc
   obtain ⟨h1,h2⟩:=lsW_done hre' h'
   refine ⟨h1,fun e he=>?_⟩
   rcases List.mem_cons.1 he with rfl | he
   ·exact (or'_true hc).imp (fun h=>h) fun h=>.inl (blt_of h)
   ·exact h2 e he
  ·obtain ⟨h1,h2⟩:=lsW_done hre' (hre a (.head _) _ _ _ _ _ h')
   refine ⟨h1,fun e he=>?_⟩
   rcases List.mem_cons.1 he with rfl | he
   ·exact .inr (.inr ⟨_,_,_,_,h'⟩)
   ·exact h2 e he
def LLok (mk:Mk):Prop:=∀ e,e∈mk.ll→∀ s k x tf sf,e.re s k=.done x tf sf→k=.done x tf sf
theorem heavyK_done {n lo pre bit:Nat}{sn:St}{mk:Mk}{K:Mk→St→R}{st:St}{x:X}{tf:PM V}{sf:St} (hll:LLok mk) (h:heavyK n lo sn pre bit mk K st=.done x tf sf) :
  (st.low<n∧(sub' mk.hv pre=true∧(sub' mk.lm pre=true∨∀ e,e∈mk.ll→sub' e.bit pre=true∨e.id<st.low∨Same e.re st))∧K ⟨Nat.lor mk.al bit,mk.lm,mk.sm,Nat.lor mk.hv bit,⟨bit,st.low,sn⟩ :: mk.hw,mk.ll,mk.ss⟩ ⟨st.heap,st.next,min lo st.low⟩=.done x tf sf) ∨
  (n≤st.low∧K ⟨Nat.lor mk.al bit,mk.lm,mk.sm,Nat.lor mk.hv bit,mk.hw,mk.ll,mk.ss⟩ ⟨st.heap,st.next,lo⟩=.done x tf sf):=by
 obtain ⟨hp,nx,l⟩:=st
 have h':iteB (Nat.blt l n) (iteB (okW mk pre l) (minK lo l fun l'=>mkW mk bit l sn fun mk=>K mk ⟨hp,nx,l'⟩) (iteB (sub' mk.hv pre) (lsW pre l ⟨hp,nx,l⟩ mk.ll (minK lo l fun l'=>mkW mk bit l sn fun mk=>K mk ⟨hp,nx,l'⟩)) (.fail 90))) (mkH mk bit fun mk=>K mk ⟨hp,nx,lo⟩)=.done x tf sf:=h
 rw [iteB_eq] at h'
 split at h'
 ·rename_i hl
  rw [minK_eq,mkW_eq,iteB_eq] at h'
  split at h'
  ·rename_i h1
   obtain ⟨a1,a2⟩:=and'_true h1
   refine .inl ⟨blt_of hl,⟨a1,(or'_true a2).imp (fun h=>h) fun h e he=>?_⟩,h'⟩
   exact (under_of h e he).imp (fun h=>h) fun h=>.inl h
  ·obtain ⟨a1,h2⟩:=ite_done h'
   obtain ⟨h3,h4⟩:=lsW_done hll h2
   exact .inl ⟨blt_of hl,⟨a1,.inr h4⟩,h3⟩
 ·rename_i hl
  rw [mkH_eq] at h'
  refine .inr ⟨?_,h'⟩
  refine Classical.byContradiction fun hn=>hl ?_
  exact Nat.ble_eq_true_of_le (show l+1≤n by have:¬ n≤l:=hn;omega)
theorem ptrOf_done {tm:Ev}{F:Nat}{c:C1}{K:Nat→R}{x:X}{tf:PM V}{sf:St} (h:ptrOf tm F c K=.done x tf sf):∃ id,K id=.done x tf sf∧∀ F K',ptrOf tm F c K'=K' id:=by
 unfold ptrOf at h
 split at h
 ·obtain ⟨id,off,e,h1⟩:=asPtr_done h;exact ⟨id,h1,fun F K'=>by show asPtr F _ _=_;rw [e];rfl⟩
 ·obtain ⟨id,off,e,h1⟩:=asPtr_done h;exact ⟨id,h1,fun F K'=>by show asPtr F _ _=_;rw [e];rfl⟩
 ·obtain ⟨id,off,e,h1⟩:=asPtr_done h;exact ⟨id,h1,fun F K'=>by show asPtr F _ _=_;rw [e];rfl⟩
 ·obtain ⟨id,off,e,h1⟩:=asPtr_done h;exact ⟨id,h1,fun F K'=>by show asPtr F _ _=_;rw [e];rfl⟩
 ·cases h
theorem ptr_same {tm:Ev}{c:C1}{i j:Nat} (h:∀ F K',ptrOf tm F c K'=K' i) (h':∀ F K',ptrOf tm F c K'=K' j):i=j:=by
 have:R.fail i=R.fail j:=by rw [← h 0 (fun k=>.fail k),← h' 0 (fun k=>.fail k)]
 cases this;rfl
theorem compRegion_get {P:Program}{g n:Nat}{ops:List Oper}:∀ (rest:List Oper) (i:Nat),(compRegion P g n ops rest)[i]?=(rest[i]?).map (compCO P g n ops)
 | [],i=>by simp [compRegion]
 | o :: r,0=>by simp [compRegion]
 | o :: r,i+1=>by simp only [compRegion,List.getElem?_cons_succ];exact compRegion_get r i
theorem touchOf_done {tm:Ev}{c:C1}{K:List Nat→R}{x:X}{tf:PM V}{sf:St} (h:touchOf tm c K=.done x tf sf):∃ ids,K ids=.done x tf sf:=by
 unfold touchOf at h
 split at h
 ·obtain ⟨a,_,h1⟩:=asSc_done h
  obtain ⟨b,_,h2⟩:=asSc_done h1
  rw [seqL_eq] at h2;exact ⟨_,h2⟩
 ·obtain ⟨a,_,h1⟩:=asSc_done h
  rw [seqL_eq] at h1;exact ⟨_,h1⟩
 ·obtain ⟨a,_,h1⟩:=asSc_done h
  obtain ⟨b,_,h2⟩:=asSc_done h1
  rw [seqL_eq] at h2;exact ⟨_,h2⟩
 ·cases h
noncomputable def takeP (h:PM Blk):List Nat→PM Blk→PM Blk
 | [],g=>g
 | id :: l,g=>takeP h l (PM.set (id+1) g id (h.get id))
theorem takeH_eq (h:PM Blk):∀ (l:List Nat) (g:PM Blk) (K:PM Blk→R),takeH h l g K=K (takeP h l g)
 | [],g,K=>rfl
 | id :: l,g,K=>by
  show PM.setK (Nat.succ id) g id (h.get id) (fun g=>takeH h l g K)=_
  rw [PM.setK_eq,takeH_eq h l];rfl
theorem takeP_get (h:PM Blk):∀ (l:List Nat) (g:PM Blk) (i:Nat),(takeP h l g).get i=if i∈l then h.get i else g.get i
 | [],g,i=>by simp [takeP]
 | id :: l,g,i=>by
  simp only [takeP]
  rw [takeP_get h l,PM.get_set _ _ _ _ _ (by omega)]
  by_cases h1:i∈l
  ·rw [if_pos h1,if_pos (by simp [h1])]
  ·by_cases h2:i=id
   ·subst h2;rw [if_neg h1,if_pos rfl,if_pos (by simp)]
   ·rw [if_neg h1,if_neg h2,if_neg (by simp [h1,h2])]
theorem mkT_eq (mk:Mk) (bit:Nat) (l:List Nat) (K:Mk→R):mkT mk bit l K=K ⟨Nat.lor mk.al bit,mk.lm,Nat.lor mk.sm bit,mk.hv,mk.hw,mk.ll,l.map (fun id=>(bit,id)) ++ mk.ss⟩:=by
 obtain ⟨al,lm,sm,hv,hw,ll,ss⟩:=mk
 have:∀ l:List Nat,(List.rec (motive:=fun _=>List (Nat×Nat)) ss (fun id _ ih=>(bit,id) :: ih) l:List (Nat×Nat))=l.map (fun id=>(bit,id)) ++ ss:=by
  intro l
  induction l with
  | nil=>rfl
  | cons a l ih=>show (bit,a) :: _=_;rw [ih];rfl
 simp only [mkT,seqN_eq,this]
theorem mergeK_done {st s1:St}{ids:List Nat}{K:St→R}{x:X}{tf:PM V}{sf:St} (h:mergeK st ids s1 K=.done x tf sf) :
  ∃ st',K st'=.done x tf sf∧st'.next=s1.next∧st'.low=s1.low∧∀ id,st'.heap.get id=if id∈ids∨(st.next≤id∧id<s1.next) then s1.heap.get id else st.heap.get id:=by
 unfold mergeK at h
 rw [takeH_eq,iteB_eq] at h
 split at h
 ·rename_i hn
  have hn:=beq_of hn
  refine ⟨_,h,rfl,rfl,fun id=>?_⟩
  show (takeP s1.heap ids st.heap).get id=_
  rw [takeP_get]
  by_cases h1:id∈ids
  ·rw [if_pos h1,if_pos (.inl h1)]
  ·rw [if_neg h1,if_neg (by rintro (h2 | h2);exact h1 h2;omega)]
 ·obtain ⟨hn,h⟩:=ite_done h
  have hn:s1.next=st.next+1:=beq_of hn
  rw [takeH_eq] at h
  refine ⟨_,h,rfl,rfl,fun id=>?_⟩
  show (takeP s1.heap [st.next] (takeP s1.heap ids st.heap)).get id=_
  rw [takeP_get,takeP_get]
  by_cases h0:id=st.next
  ·rw [if_pos (by simp [h0]),if_pos (.inr (by omega))]
  ·rw [if_neg (by simp [h0])]
   by_cases h1:id∈ids
   ·rw [if_pos h1,if_pos (.inl h1)]
   ·rw [if_neg h1,if_neg (by rintro (h2 | h2);exact h1 h2;omega)]
theorem grow_merge {st s s1 st':St}{ids:List Nat} (G:Grow s s1) (h5:s.next=st.next) (h6:st'.next=s1.next) (h7:st'.low=s1.low) (h8:s.low=st.low) (hA:∀ id,s.heap.get id=if id∈ids then st.heap.get id else none)
  (hB:∀ id,st'.heap.get id=if id∈ids∨(st.next≤id∧id<s1.next) then s1.heap.get id else st.heap.get id):Grow st st':=by
 have hws:WfS st→WfS s:=fun hw id hid=>by
  rw [hA];split
  ·exact hw id (by omega)
  ·rfl
 refine ⟨by rw [h6,← h5];exact G.next,by rw [h7,← h8];exact G.low,fun id h1 h2=>?_,fun id h1 h2=>?_,fun id b h1 h2=>?_,fun hw id b h1 h2=>?_,fun hw id h1=>?_⟩
 ·rw [hB];split
  ·rename_i hc
   rcases hc with hc | hc
   ·rw [G.old id (by omega) (by omega),hA,if_pos hc]
   ·omega
  ·rfl
 ·rw [hB];split
  ·rename_i hc
   rcases hc with hc | hc
   ·exact G.gone id (by omega) (by rw [hA,if_pos hc];exact h2)
   ·omega
  ·exact h2
 ·rw [hB] at h2;split at h2
  ·rename_i hc
   rcases hc with hc | hc
   ·obtain ⟨c,e1,e2⟩:=G.keepOwn id b (by omega) h2
    rw [hA,if_pos hc] at e1
    exact ⟨c,e1,e2⟩
   ·omega
  ·exact ⟨b,h2,rfl⟩
 ·rw [hB] at h2;split at h2
  ·exact G.newOwn (hws hw) id b (by omega) h2
  ·rw [hw id h1] at h2;cases h2
 ·rw [h6] at h1
  rw [hB];split
  ·exact G.wf (hws hw) id h1
  ·exact hw id (by have:=G.next;omega)
theorem clsD_cases (c:C1):(clsD c=clsOf c∧clsD c≠5)∨(clsD c=5∧clsOf c=3):=by
 have h5:clsOf c≠5:=by
  have h6:∀ c5,cls5 c5≠5:=fun c5=>by cases c5 <;> simp [cls5]
  unfold clsOf;split <;> first | exact h6 _ | simp
 unfold clsD
 split
 ·exact .inr ⟨rfl,rfl⟩
 ·exact .inr ⟨rfl,rfl⟩
 ·exact .inr ⟨rfl,rfl⟩
 ·exact .inl ⟨rfl,h5⟩
theorem StepOk.llok {P:Program}{g n0:Nat}{o:Oper}{gd:Option (Nat×Bool)}{bit pre:Nat}{tm tm':Ev}{st st':St}{mk mk':Mk}{T:Nat→Prop} (h:StepOk P g n0 o gd bit pre tm st mk tm' st' mk' T) (hl:LLok mk):LLok mk':=by
 cases h with
 | skip h1 h2 h3 h4 h5=>rw [h4];exact hl
 | pure v h1 h2 h3 h4 h5 h6=>rw [h5];exact hl
 | new nb v h1 h2 h3 h4 h5 h6=>rw [h5];exact hl
 | load id b v re h1 h2 h3 h4 h5 h6 h7 h8 h9 hA =>
  rw [h7]
  intro e he s k x tf sf hd
  rcases List.mem_cons.1 he with rfl | he
  ·exact (h9 _ _ _ _ _ hd).2
  ·exact hl e he _ _ _ _ _ hd
 | store id b b' h1 h2 h3 h4 h5 h6 h7 h8=>rw [h7];exact hl
 | wrote v s1 h1 h2 h3 h4 h5 h6 h7 h8 h9=>rw [h8];exact hl
 | touch v ids s s1 h1 h2 h3 h4 h5 h6 h7 h8 h9 hA hB hC hD=>rw [hC];exact hl
 | heavy v s1 h1 h2 h3 h4 h5 h6 h7 h8=>rw [h7];exact hl
theorem reK_done {tm:Ev}{v:V}{c:C1}{s:St}{k:R}{x:X}{tf:PM V}{sf:St} (call:CallK) (h:reK tm v c s k=.done x tf sf):op1 call tm s (fun v' _=>twK v v' k) c=.done x tf sf:=by
 unfold reK at h
 split at h
 ·exact h
 ·exact h
 ·cases h
section
variable {P:Program}{g n n0:Nat}{call:CallK}
theorem reK_ok (hcall:CallOk P g call) {o:Oper}{c:C1}{tm:Ev}{opl:List Oper} (hc:compOpR P g opl o.op=some c) {id:Nat} (hp:∀ F K',ptrOf tm F c K'=K' id) (e2:clsOf c=2) (v:V):ReOk P g o tm id v (reK tm v c):=by
 intro s k x tf sf h
 cases op_okR hcall hc (reK_done call h) with
 | load id' b v' _ hp' hb h2 h3 =>
  obtain rfl:=ptr_same hp hp'
  obtain ⟨rfl,h4⟩:=twK_done h2
  exact ⟨⟨b,hb,h3⟩,h4⟩
 | pure v e'=>rw [e2] at e';cases e'
 | new nb v e'=>rw [e2] at e';cases e'
 | heavy v st' e'=>rw [e2] at e';cases e'
 | store id b b' e'=>rw [e2] at e';cases e'
theorem evD_step (hcall:CallOk P g call) {o:Oper}{c:C1}{gd:Option (Nat×Bool)}{bit pre:Nat}{mk:Mk}{tm:Ev}{st:St}{K:Mk→Ev→St→R}{x:X}{tf:PM V}{sf:St}{opl:List Oper} (hc:compOpR P g opl o.op=some c) (hll:LLok mk)
  (h:gopD tm (gpath gd) (fun j=>evCls call n0 c bit pre mk tm st j (clsD c)) mk st (fun v mk st=>putK tm (o.dst.map pathOf) v fun tm=>K mk tm st)=.done x tf sf) :
  ∃ tm' st' mk' T,K mk' tm' st'=.done x tf sf∧StepOk P g n0 o gd bit pre tm st mk tm' st' mk' T:=by
 rcases (gopD_done h).symm with ⟨hw,h⟩ | ⟨hw,h⟩
 ·rw [putK_eq] at h
  exact ⟨_,_,_,fun _=>False,h,.skip hw rfl rfl rfl fun _ h=>h⟩
 ·rcases clsD_cases c with ⟨hcd,_⟩ | ⟨hcd,hcf⟩
  rotate_left
  ·rw [hcd] at h
   obtain ⟨ids,h1⟩:=touchOf_done (show touchOf tm c (fun ids=>iteB (okT mk n0 pre ids) (takeH st.heap ids .leaf fun h=>op1 call tm ⟨h,st.next,st.low⟩ (fun v s=>mergeK st ids s fun st=>mkT mk bit ids fun mk=>putK tm (o.dst.map pathOf) v fun tm=>K mk tm st) c) (.fail 85))=.done x tf sf from h)
   obtain ⟨hok,h2⟩:=ite_done h1
   rw [takeH_eq] at h2
   cases op_okR hcall hc h2 with
   | heavy v s1 _ h3 h4 =>
    obtain ⟨st',h5,h6,h7,hB⟩:=mergeK_done h3
    rw [mkT_eq,putK_eq] at h5
    have hA:∀ id,(takeP st.heap ids .leaf).get id=if id∈ids then st.heap.get id else none:=fun id=>by rw [takeP_get];simp
    have hG:Grow st st':=grow_merge (s:=⟨takeP st.heap ids .leaf,st.next,st.low⟩) h4.1 rfl h6 h7 rfl hA hB
    exact ⟨_,st',_,fun i=>(takeP st.heap ids .leaf).get i≠none,h5,.touch v ids ⟨takeP st.heap ids .leaf,st.next,st.low⟩ s1 hw hok h4 rfl rfl h6.symm h7 hG.low hG hA hB rfl fun _=>Iff.rfl⟩
   | pure v e'=>rw [hcf] at e';cases e'
   | new nb v e'=>rw [hcf] at e';cases e'
   | load id b v e'=>rw [hcf] at e';cases e'
   | store id b b' e'=>rw [hcf] at e';cases e'
  rw [hcd] at h
  have hcls:clsOf c=0∨clsOf c=1∨clsOf c=2∨clsOf c=3∨clsOf c=4:=by
   have h6:∀ c5,cls5 c5=0∨cls5 c5=1∨cls5 c5=2∨cls5 c5=3∨cls5 c5=4:=fun c5=>by cases c5 <;> simp [cls5]
   unfold clsOf;split <;> first | exact h6 _ | simp
  rcases hcls with e | e | e | e | e
  ·rw [e] at h
   have h1:op1 call tm st (fun v st=>putK tm (o.dst.map pathOf) v fun tm=>K mk tm st) c=.done x tf sf:=h
   cases op_okR hcall hc h1 with
   | pure v _ h2 h3=>simp only [putK_eq] at h2;exact ⟨_,_,_,fun _=>False,h2,.pure v hw h3 rfl rfl rfl fun _ h=>h⟩
   | new nb v e'=>rw [e] at e';cases e'
   | load id b v e'=>rw [e] at e';cases e'
   | heavy v st' e'=>rw [e] at e';cases e'
   | store id b b' e'=>rw [e] at e';cases e'
  ·rw [e] at h
   have h1:op1 call tm st (fun v st=>mkA mk bit fun mk=>putK tm (o.dst.map pathOf) v fun tm=>K mk tm st) c=.done x tf sf:=h
   cases op_okR hcall hc h1 with
   | new nb v _ h2 h3=>simp only [putK_eq,mkA_eq] at h2;exact ⟨_,_,_,fun _=>False,h2,.new nb v hw h3 rfl rfl rfl fun _ h=>h⟩
   | pure v e'=>rw [e] at e';cases e'
   | load id b v e'=>rw [e] at e';cases e'
   | heavy v st' e'=>rw [e] at e';cases e'
   | store id b b' e'=>rw [e] at e';cases e'
  ·rw [e] at h
   have h0:ptrOf tm 63 c (fun id=>iteB (okL mk n0 pre id) (op1 call tm st (fun v st=>mkL mk bit id (reK tm v c) fun mk=>putK tm (o.dst.map pathOf) v fun tm=>K mk tm st) c)
    (iteB (okL2 mk n0 pre id) (op1 call tm st (fun v st=>lsL pre id (reK tm v c) mk.hw (mkL mk bit id (reK tm v c) fun mk=>putK tm (o.dst.map pathOf) v fun tm=>K mk tm st)) c) (.fail 87)))=.done x tf sf:=h
   obtain ⟨id,h0,hp⟩:=ptrOf_done h0
   have h1:∃ H:V→Prop,okL2 mk n0 pre id=true∧op1 call tm st (fun v st=>lsL pre id (reK tm v c) mk.hw (mkL mk bit id (reK tm v c) fun mk=>putK tm (o.dst.map pathOf) v fun tm=>K mk tm st)) c=.done x tf sf∨∃ _:okL mk n0 pre id=true,op1 call tm st (fun v st=>mkL mk bit id (reK tm v c) fun mk=>putK tm (o.dst.map pathOf) v fun tm=>K mk tm st) c=.done x tf sf:=by
    rw [iteB_eq] at h0
    split at h0
    ·rename_i hk;exact ⟨fun _=>True,.inr ⟨hk,h0⟩⟩
    ·obtain ⟨hk,h1⟩:=ite_done h0;exact ⟨fun _=>True,.inl ⟨hk,h1⟩⟩
   obtain ⟨_,⟨hok,h1⟩ | ⟨hok,h1⟩⟩:=h1
   ·cases op_okR hcall hc h1 with
    | load id' b v _ hp' hb h2 h3 =>
     obtain rfl:=ptr_same hp hp'
     have hre:=reK_ok hcall hc hp e v
     obtain ⟨h4,h5⟩:=lsL_done (fun s k x tf sf h=>(hre s k x tf sf h).2) h2
     simp only [putK_eq,mkL_eq] at h4
     exact ⟨_,_,_,fun i=>False,h4,.load id b v _ hw hb h3 hok rfl rfl rfl (fun _ h=>h) hre h5⟩
    | pure v e'=>rw [e] at e';cases e'
    | new nb v e'=>rw [e] at e';cases e'
    | heavy v st' e'=>rw [e] at e';cases e'
    | store id b b' e'=>rw [e] at e';cases e'
   obtain ⟨hbel,hok2⟩:=and'_true hok
   cases op_okR hcall hc h1 with
   | load id' b v _ hp' hb h2 h3 =>
    obtain rfl:=ptr_same hp hp'
    have hre:=reK_ok hcall hc hp e v
    simp only [putK_eq,mkL_eq] at h2
    exact ⟨_,_,_,fun i=>False,h2,.load id b v _ hw hb h3 hok2 rfl rfl rfl (fun _ h=>h) hre fun e he=>(below_of hbel e he).imp (fun h=>h) fun h=>.inl h⟩
   | pure v e'=>rw [e] at e';cases e'
   | new nb v e'=>rw [e] at e';cases e'
   | heavy v st' e'=>rw [e] at e';cases e'
   | store id b b' e'=>rw [e] at e';cases e'
  ·rw [e] at h
   have h0:iteB (okH mk pre) (op1 call tm (setLow st st.next) (fun v st'=>heavyK st.next st.low st pre bit mk (fun mk st=>putK tm (o.dst.map pathOf) v fun tm=>K mk tm st) st') c) (.fail 89)=.done x tf sf:=h
   obtain ⟨hok,h1⟩:=ite_done h0
   cases op_okR hcall hc h1 with
   | heavy v s1 _ h2 h3 =>
    rcases heavyK_done hll h2 with ⟨a1,a2,a3⟩ | ⟨a1,a3⟩
    ·rw [putK_eq] at a3
     exact ⟨_,_,_,fun i=>st.heap.get i≠none,a3,.wrote v s1 hw hok h3 rfl a1 a2 rfl rfl fun _=>Iff.rfl⟩
    ·rw [putK_eq] at a3
     exact ⟨_,_,_,fun i=>st.heap.get i≠none,a3,.heavy v s1 hw hok h3 rfl a1 rfl rfl fun _=>Iff.rfl⟩
   | pure v e'=>rw [e] at e';cases e'
   | new nb v e'=>rw [e] at e';cases e'
   | load id b v e'=>rw [e] at e';cases e'
   | store id b b' e'=>rw [e] at e';cases e'
  ·rw [e] at h
   have h0:ptrOf tm 64 c (fun id=>iteB (okS mk n0 pre id) (op1 call tm st (fun v st=>mkS mk bit id fun mk=>putK tm (o.dst.map pathOf) v fun tm=>K mk tm st) c) (.fail 88))=.done x tf sf:=h
   obtain ⟨id,h0,hp⟩:=ptrOf_done h0
   obtain ⟨hok,h1⟩:=ite_done h0
   cases op_okR hcall hc h1 with
   | store id' b b' _ hp' hb h2 h3 =>
    obtain rfl:=ptr_same hp hp'
    simp only [putK_eq,mkS_eq] at h2
    exact ⟨_,_,_,fun i=>i=id,h2,.store id b b' hw hb h3 hok rfl rfl rfl fun _=>Iff.rfl⟩
   | pure v e'=>rw [e] at e';cases e'
   | new nb v e'=>rw [e] at e';cases e'
   | load id b v e'=>rw [e] at e';cases e'
   | heavy v st' e'=>rw [e] at e';cases e'
def shift {α:Type} (a:α) (f:Nat→α):Nat→α | 0=>a | p+1=>f p
theorem trace (hcall:CallOk P g call) {ops:List Oper}{pres:List Nat}:∀ (is:List Nat) {mk:Mk}{tm:Ev}{st:St}{K:Ev→St→R}{x:X}{tz:PM V}{sz:St},LLok mk →
  evD call n0 (is.map (compDO P n ops pres (compRegion P g n ops ops))) mk tm st K=.done x tz sz →
  ∃ tf sf,K tf sf=.done x tz sz∧∃ (TM:Nat→Ev) (SS:Nat→St) (MK:Nat→Mk) (T:Nat→Nat→Prop),TM 0=tm∧SS 0=st∧MK 0=mk∧TM is.length=tf∧SS is.length=sf ∧
   ∀ p i,is[p]?=some i→∃ o gd pre,ops[i]?=some o∧pres[i]?=some pre∧guardT ops o.guard=some gd∧dstOk n o.dst=true ∧
    StepOk P g n0 o gd (2 ^ i) pre (TM p) (SS p) (MK p) (TM (p+1)) (SS (p+1)) (MK (p+1)) (T p)∧(compDO P n ops pres (compRegion P g n ops ops) i).dst=o.dst.map pathOf∧∀ d,o.op≠.defer d
 | [],mk,tm,st,K,x,tz,sz,hll,h=>by
  exact ⟨tm,st,h,fun _=>tm,fun _=>st,fun _=>mk,fun _ _=>False,rfl,rfl,rfl,rfl,rfl,fun p i hp=>by simp at hp⟩
 | i :: is,mk,tm,st,K,x,tz,sz,hll,h=>by
  have h1:evD call n0 (compDO P n ops pres (compRegion P g n ops ops) i :: is.map (compDO P n ops pres (compRegion P g n ops ops))) mk tm st K=.done x tz sz:=h
  unfold compDO at h1
  rw [compRegion_get] at h1
  cases ho:ops[i]? with
  | none=>rw [ho] at h1;cases h1
  | some o =>
   rw [ho] at h1
   cases hpr:pres[i]? with
   | none=>rw [hpr] at h1;cases h1
   | some pre =>
    rw [hpr] at h1
    simp only [Option.map_some] at h1
    unfold compCO at h1
    cases hc:compOpR P g ops o.op with
    | none =>
     rw [hc] at h1
     cases hg:guardT ops o.guard with
     | none=>rw [hg] at h1;cases h1
     | some gd=>rw [hg] at h1;cases h1
    | some c =>
     rw [hc] at h1
     cases hg:guardT ops o.guard with
     | none=>rw [hg] at h1;cases h1
     | some gd =>
      rw [hg] at h1
      simp only at h1
      cases hd:dstOk n o.dst with
      | false=>rw [hd] at h1;cases h1
      | true =>
       rw [hd] at h1
       simp only [if_true] at h1
       have h2:gopD tm (gpath gd) (fun j=>evCls call n0 c (2 ^ i) pre mk tm st j (clsD c)) mk st (fun v mk st=>putK tm (o.dst.map pathOf) v fun tm=>evD call n0 (is.map (compDO P n ops pres (compRegion P g n ops ops))) mk tm st K)=.done x tz sz:=h1
       obtain ⟨tm',st',mk',T0,h3,h4⟩:=evD_step hcall hc hll h2
       obtain ⟨tf,sf,hK,TM,SS,MK,T,e1,e2,e3,e4,e5,e6⟩:=trace hcall is (h4.llok hll) h3
       refine ⟨tf,sf,hK,shift tm TM,shift st SS,shift mk MK,shift T0 T,rfl,rfl,rfl,e4,e5, ?_⟩
       intro p j hp
       cases p with
       | zero =>
        simp at hp;subst hp
        refine ⟨o,gd,pre,ho,hpr,hg,hd, ?_,by unfold compDO;rw [compRegion_get,ho,hpr];simp only [Option.map_some];unfold compCO;rw [hc,hg];simp [hd],compOpR_defer hc⟩
        show StepOk P g n0 o gd (2 ^ i) pre tm st mk (TM 0) (SS 0) (MK 0) T0
        rw [e1,e2,e3];exact h4
       | succ p=>exact e6 p j (by simpa using hp)
end
theorem pairsOk_get:∀ {l:List Info},pairsOk l=true→∀ (p q:Nat) (e f:Info),p<q→l[p]?=some e→l[q]?=some f→pairOk e f=true
 | [],_,p,q,e,f,_,h,_=>by simp at h
 | a :: r,h,p,q,e,f,hlt,hp,hq=>by
  simp only [pairsOk,Bool.and_eq_true] at h
  cases q with
  | zero=>omega
  | succ q =>
   cases p with
   | zero =>
    simp at hp;subst hp
    exact List.all_eq_true.1 h.1 f (List.mem_of_getElem? (by simpa using hq))
   | succ p=>exact pairsOk_get h.2 p q e f (by omega) (by simpa using hp) (by simpa using hq)
theorem infos_get {ops:List Oper}{pres:List Nat}:∀ {is:List Nat}{l:List Info},infos ops pres is=some l→∀ (p i:Nat),is[p]?=some i→∃ (o:Oper) (m:Nat),ops[i]?=some o∧pres[i]?=some m∧l[p]?=some ⟨i,m,o.dst,looks ops o⟩
 | [],l,h,p,i,hp=>by simp at hp
 | j :: is,l,h,p,i,hp=>by
  simp only [infos] at h
  split at h
  ·rename_i o m l' e1 e2 e3
   cases h
   cases p with
   | zero=>simp at hp;subst hp;exact ⟨o,m,e1,e2,rfl⟩
   | succ p =>
    obtain ⟨o',m',a1,a2,a3⟩:=infos_get e3 p i (by simpa using hp)
    exact ⟨o',m',a1,a2,by simpa using a3⟩
  ·cases h
theorem backOk_get:∀ {l:List Oper}{k:Nat},backOk k l=true→∀ (i:Nat) (o:Oper),l[i]?=some o→∀ e,e∈o.after→bindsAny e=true→e.on<k+i
 | [],k,_,i,o,h=>by simp at h
 | a :: r,k,h,i,o,hi=>by
  simp only [backOk,Bool.and_eq_true] at h
  intro e he hb
  cases i with
  | zero =>
   simp at hi;subst hi
   have:=List.all_eq_true.1 h.1 e (by simpa using he)
   simp only [hb,Bool.not_true,Bool.false_or] at this
   exact blt_of this
  | succ i =>
   have:=backOk_get h.2 i o (by simpa using hi) e he hb
   omega
theorem maskOf_mem:∀ {l:List Nat}{m i:Nat},Nat.testBit (maskOf l m) i=true→Nat.testBit m i=true∨i∈l
 | [],m,i,h=>.inl h
 | j :: r,m,i,h=>by
  rcases maskOf_mem (l:=r) h with h1 | h1
  ·have h2:Nat.testBit (m ||| 2 ^ j) i=true:=h1
   rw [Nat.testBit_or,Nat.testBit_two_pow] at h2
   simp only [Bool.or_eq_true,decide_eq_true_eq] at h2
   rcases h2 with h2 | h2
   ·exact .inl h2
   ·exact .inr (by simp [h2])
  ·exact .inr (by simp [h1])
theorem nodupM_get:∀ {l:List Nat}{m:Nat},nodupM l m=true→(∀ i,i∈l→Nat.testBit m i=false)∧∀ (p q i:Nat),l[p]?=some i→l[q]?=some i→p=q
 | [],m,h=>⟨(fun i hi=>by cases hi),(fun p q i hp=>by simp at hp)⟩
 | j :: r,m,h=>by
  simp only [nodupM,Bool.and_eq_true,Bool.not_eq_true'] at h
  obtain ⟨h1,h2⟩:=nodupM_get h.2
  have hm:∀ i,i∈r→Nat.testBit m i=false∧i≠j:=fun i hi=>by
   have h3:Nat.testBit (m ||| 2 ^ j) i=false:=h1 i hi
   rw [Nat.testBit_or,Nat.testBit_two_pow] at h3
   simp only [Bool.or_eq_false_iff,decide_eq_false_iff_not] at h3
   exact ⟨h3.1,fun he=>h3.2 he.symm⟩
  refine ⟨fun i hi=>?_,fun p q i hp hq=>?_⟩
  ·rcases List.mem_cons.1 hi with rfl | hi
   ·exact h.1
   ·exact (hm i hi).1
  ·cases p with
   | zero =>
    simp at hp;subst hp
    cases q with
    | zero=>rfl
    | succ q=>exact absurd rfl (hm j (List.mem_of_getElem? (by simpa using hq))).2
   | succ p =>
    cases q with
    | zero =>
     simp at hq;subst hq
     exact absurd rfl (hm j (List.mem_of_getElem? (by simpa using hp))).2
    | succ q=>rw [h2 p q i (by simpa using hp) (by simpa using hq)]
theorem binds_any (e:Edge):Region.binds .any e=bindsAny e:=by
 unfold Region.binds bindsAny
 cases e.ground <;> rfl
theorem preOf_bit {pres:List Nat}:∀ {l:List Edge}{r:Nat},Nat.testBit (preOf pres l) r=true→∃ e,e∈l∧∃ m,pres[e.on]?=some m∧(r=e.on∨Nat.testBit m r=true)
 | [],r,h=>by simp [preOf] at h
 | e :: l,r,h=>by
  simp only [preOf] at h
  split at h
  ·rename_i q hq
   have h':Nat.testBit ((2 ^ e.on ||| q) ||| preOf pres l) r=true:=h
   rw [Nat.testBit_or,Nat.testBit_or,Nat.testBit_two_pow] at h'
   simp only [Bool.or_eq_true,decide_eq_true_eq] at h'
   rcases h' with (h' | h') | h'
   ·exact ⟨e,by simp,q,hq,.inl h'.symm⟩
   ·exact ⟨e,by simp,q,hq,.inr h'⟩
   ·obtain ⟨e',h1,m,h2,h3⟩:=preOf_bit h'
    exact ⟨e',by simp [h1],m,h2,h3⟩
  ·obtain ⟨e',h1,m,h2,h3⟩:=preOf_bit h
   exact ⟨e',by simp [h1],m,h2,h3⟩
theorem presOf_get:∀ (rest:List Oper) (acc:List Nat) (ops:List Oper),(∀ k,rest[k]?=ops[acc.length+k]?) →
  (∀ (i m:Nat),acc[i]?=some m→∃ o:Oper,ops[i]?=some o∧∀ r,Nat.testBit m r=true→∃ e,e∈o.after∧bindsAny e=true∧∃ m',acc[e.on]?=some m'∧(r=e.on∨Nat.testBit m' r=true)) →
  ∀ (i m:Nat),(presOf acc rest)[i]?=some m→∃ o:Oper,ops[i]?=some o∧∀ r,Nat.testBit m r=true→∃ e,e∈o.after∧bindsAny e=true∧∃ m',(presOf acc rest)[e.on]?=some m'∧(r=e.on∨Nat.testBit m' r=true)
 | [],acc,ops,_,h=>h
 | o :: rest,acc,ops,hk,h=>by
  simp only [presOf]
  refine presOf_get rest _ ops (fun k=>?_) fun i m him=>?_
  ·have:=hk (k+1)
   simp at this
   simp only [List.length_append,List.length_cons,List.length_nil]
   rw [this];congr 1;omega
  ·by_cases hi:i<acc.length
   ·rw [List.getElem?_append_left hi] at him
    obtain ⟨o',h1,h2⟩:=h i m him
    refine ⟨o',h1,fun r hr=>?_⟩
    obtain ⟨e,a1,a2,m',a3,a4⟩:=h2 r hr
    have:e.on<acc.length:=(List.getElem?_eq_some_iff.1 a3).1
    exact ⟨e,a1,a2,m',by rw [List.getElem?_append_left this];exact a3,a4⟩
   ·have hlt:i<(acc ++ [preOf acc (o.after.toList.filter bindsAny)]).length:=(List.getElem?_eq_some_iff.1 him).1
    simp at hlt
    have hie:i=acc.length:=by omega
    subst hie
    rw [List.getElem?_append_right (Nat.le_refl _)] at him
    simp at him
    subst him
    refine ⟨o,by have:=hk 0;simpa using this.symm,fun r hr=>?_⟩
    obtain ⟨e,a1,m',a3,a4⟩:=preOf_bit hr
    have:e.on<acc.length:=(List.getElem?_eq_some_iff.1 a3).1
    rw [List.mem_filter] at a1
    exact ⟨e,by simpa using a1.1,a1.2,m',by rw [List.getElem?_append_left this];exact a3,a4⟩
theorem tmpsOf_mem {t:Nat}:∀ {l:List Operand},Operand.tmp t∈l→t∈tmpsOf l
 | [],h=>by cases h
 | x :: l,h=>by
  rcases List.mem_cons.1 h with h | h
  ·subst h;simp [tmpsOf]
  ·have:=tmpsOf_mem h
   cases x <;> simp [tmpsOf,this]
theorem looks_mem {ops:List Oper}{o:Oper}{gd:Option (Nat×Bool)}{d:Nat} (hg:guardT ops o.guard=some gd) (h:Operand.tmp d∈o.op.operands∨∃ w,gd=some (d,w)):d∈looks ops o:=by
 unfold looks
 rw [hg]
 rcases h with h | ⟨w,rfl⟩
 ·have:d∈tmpsOf o.op.operands.toList:=tmpsOf_mem (by simpa using h)
  cases gd with
  | none=>exact this
  | some p=>exact .tail _ this
 ·exact .head _
theorem hasN_of {d:Nat}{l:List Nat} (h:d∈l):hasN (some d) l=true:=List.any_eq_true.2 ⟨d,h,Nat.beq_refl d⟩
end
section
set_option linter.unusedSectionVars false
variable [LoopP]
theorem Run.imp {P:Program}{g n N:Nat}{opAt:Nat→Oper}{gd:Nat→Option (Nat×Bool)}{TM:Nat→Ev}{SS:Nat→St}{T:Nat→Nat→Prop}{Pre Pre':Nat→Nat→Prop} (h:∀ p q,q<N→Pre p q→Pre' p q)
  (R:Run P g n N opAt gd TM SS T Pre):Run P g n N opAt gd TM SS T Pre' :=
 ⟨fun p hp=>by
   have hcons:∀ id ob,At SS N Pre' p id ob→At SS N Pre p id ob:=fun id ob ⟨k,hk,hc,he⟩=>⟨k,hk,⟨fun j hj hch hpr=>hc.1 j hj hch (h j p hp hpr),fun j h1 h2 hch hpr=>hc.2 j h1 h2 hch (h p j h2 hpr)⟩,he⟩
   cases R.step p hp with
   | skip h1 h2 h3 h4=>exact .skip h1 h2 h3 h4
   | loose id v h1 h2 h3 h4 h5=>exact .loose id v h1 h2 h3 h4 fun ob hob=>h5 ob (hcons id ob hob)
   | run v s s' h1 h2 h3 h4 h5 h6 h7 h8 h9 hA hB=>exact .run v s s' h1 h2 h3 h4 h5 h6 h7 h8 h9 hA hB,R.wf,fun q p hqp hp id hh=>h p q (Nat.lt_trans hqp hp) (R.ni q p hqp hp id hh),R.dst,fun q p hq hp hne d hd hr=>by
  rcases R.reads q p hq hp hne d hd hr with ⟨h1,h2⟩ | ⟨h1,h2⟩
  ·exact .inl ⟨h1,h p q hq h2⟩
  ·exact .inr ⟨h1,h q p hp h2⟩,R.dn⟩
theorem StepOk.off {P:Program}{g n0:Nat}{o:Oper}{gd:Option (Nat×Bool)}{bit pre:Nat}{tm tm':Ev}{st st':St}{mk mk':Mk}{T:Nat→Prop} (h:StepOk P g n0 o gd bit pre tm st mk tm' st' mk' T) {p:Pth} (hp:o.dst.map pathOf≠some p):tm' p=tm p:=by
 have:∃ v,tm'=putT tm o.dst v:=by
  cases h <;> exact ⟨_,by assumption⟩
 obtain ⟨v,rfl⟩:=this
 exact putT_off tm o.dst v hp
section
variable {P:Program}{g n:Nat}{call:CallK}
theorem drawn_region (hcall:CallOk P g call) (hm:P.follows .mixedOrders=true) {id:Nat}{ops:Array Oper}{tm:Ev}{st:St}{K:Ev→St→R}{x:X}{tz:PM V}{sz:St}
  (h:evD call st.next (compDrawn P g n ops.toList) mk0 tm st K=.done x tz sz) :
  ∃ tf sf,K tf sf=.done x tz sz∧(∀ p,(∀ d,d∈(compDrawn P g n ops.toList).map (·.dst)→d≠some p)→tf p=tm p)∧Does P g n tm st tf sf (fun Q a w=>∀ (ro:Option Nat) (Qx:Exit→Act→World→Prop),(∀ a' w',Q a' w'→Qx .normal a' w')→(Code.region id ops true).wpIn (FW ro) 0 P Qx a w):=by
 unfold compDrawn at h ⊢
 simp only at h ⊢
 generalize hpres:presOf [] ops.toList=pres at h ⊢
 generalize hisd:ordD ops.toList pres ((compRegion P g n ops.toList ops.toList).map fun c=>clsOf c.op)=is at h ⊢
 cases hchk:chkD ops.toList pres is with
 | false=>rw [hchk] at h;cases h
 | true =>
  rw [hchk] at h
  simp only [if_true] at h ⊢
  obtain ⟨tf,sf,hK,TM,SS,MK,T,e1,e2,e3,e4,e5,e6⟩:=trace hcall is (fun _ h=>by cases h) h
  unfold chkD at hchk
  simp only [Bool.and_eq_true] at hchk
  obtain ⟨c1,c2,c3,c4,c5⟩:=hchk
  have hlen:is.length=ops.size:=by have:=beq_of c1;simpa using this
  obtain ⟨_,hnd⟩:=nodupM_get c2
  have hmask:=beq_of c3
  cases hinf:infos ops.toList pres is with
  | none=>rw [hinf] at c5;cases c5
  | some inf =>
   rw [hinf] at c5
   simp only at c5
   let ord:Nat→Nat:=fun p=>(is[p]?).getD 0
   have hord:∀ p,p<ops.size→is[p]?=some (ord p):=fun p hp=>by
    show is[p]?=some ((is[p]?).getD 0)
    rw [List.getElem?_eq_getElem (by omega)];rfl
   let opAt:Nat→Oper:=fun p=>(ops[ord p]?).getD default
   let gd:Nat→Option (Nat×Bool):=fun p=>(guardT ops.toList (opAt p).guard).getD none
   let pre:Nat→Nat:=fun p=>(pres[ord p]?).getD 0
   have hall:∀ p,p<ops.size→ops[ord p]?=some (opAt p)∧pres[ord p]?=some (pre p)∧guardT ops.toList (opAt p).guard=some (gd p)∧dstOk n (opAt p).dst=true ∧
     StepOk P g st.next (opAt p) (gd p) (2 ^ ord p) (pre p) (TM p) (SS p) (MK p) (TM (p+1)) (SS (p+1)) (MK (p+1)) (T p):=fun p hp=>by
    obtain ⟨o,gd0,pre0,a1,a2,a3,a4,a5,_,_⟩:=e6 p (ord p) (hord p hp)
    have ha1:ops[ord p]?=some o:=by simpa using a1
    have ho:opAt p=o:=by show (ops[ord p]?).getD default=o;rw [ha1];rfl
    have hg:gd p=gd0:=by show (guardT ops.toList (opAt p).guard).getD none=gd0;rw [ho,a3];rfl
    have hp:pre p=pre0:=by show (pres[ord p]?).getD 0=pre0;rw [a2];rfl
    rw [ho,hg,hp]
    exact ⟨ha1,a2,a3,a4,a5⟩
   have hinj:∀ p q,p<ops.size→q<ops.size→ord p=ord q→p=q:=fun p q hp hq he=>hnd p q (ord p) (hord p hp) (by rw [he];exact hord q hq)
   have hsurj:∀ i,i<ops.size→∃ p,p<ops.size∧ord p=i:=fun i hi=>by
    have h1:Nat.testBit (maskOf is 0) i=true:=by
     rw [hmask]
     show Nat.testBit (2 ^ ops.toList.length - 1) i=true
     rw [Nat.testBit_two_pow_sub_one];simpa using hi
    rcases maskOf_mem h1 with h2 | h2
    ·simp at h2
    ·obtain ⟨p,hp⟩:=List.getElem?_of_mem h2
     have hpl:p<is.length:=(List.getElem?_eq_some_iff.1 hp).1
     refine ⟨p,by omega, ?_⟩
     show (is[p]?).getD 0=i
     rw [hp];rfl
   have hinfo:∀ p,p<ops.size→inf[p]?=some ⟨ord p,pre p,(opAt p).dst,looks ops.toList (opAt p)⟩:=fun p hp=>by
    obtain ⟨o,m,a1,a2,a3⟩:=infos_get hinf p (ord p) (hord p hp)
    obtain ⟨b1,b2,_⟩:=hall p hp
    have ha1:ops[ord p]?=some o:=by simpa using a1
    rw [b1] at ha1;cases ha1
    rw [b2] at a2;cases a2
    exact a3
   have hpair:∀ p q,p<q→q<ops.size→(∀ d,(opAt p).dst=some d→(opAt q).dst≠some d) ∧
     ((pre q).testBit (ord p)=true∨((∀ d,(opAt p).dst=some d→d ∉ looks ops.toList (opAt q))∧∀ d,(opAt q).dst=some d→d ∉ looks ops.toList (opAt p))):=fun p q hpq hq=>by
    have:=pairsOk_get c5 p q _ _ hpq (hinfo p (by omega)) (hinfo q hq)
    unfold pairOk at this
    simp only [Bool.and_eq_true,Bool.not_eq_true',Bool.or_eq_true] at this
    obtain ⟨d1,d2⟩:=this
    refine ⟨fun d hd hd'=>?_,d2.imp (fun h=>h) fun h=>⟨fun d hd hm=>?_,fun d hd hm=>?_⟩⟩
    ·rw [hd,hd'] at d1
     have:Nat.beq d d=false:=d1
     rw [Nat.beq_refl] at this;cases this
    ·have:=h.1
     rw [hd,hasN_of hm] at this;cases this
    ·have:=h.2
     rw [hd,hasN_of hm] at this;cases this
   have hdst:∀ q p,q<ops.size→p<ops.size→q≠p→∀ d,(opAt q).dst=some d→(opAt p).dst≠some d:=fun q p hq hp hne d hd hd'=>by
    rcases Nat.lt_or_gt_of_ne hne with hlt | hlt
    ·exact (hpair q p hlt hp).1 d hd hd'
    ·exact (hpair p q hlt hq).1 d hd' hd
   have hreads:∀ q p,q<ops.size→p<ops.size→q≠p→∀ d,(opAt q).dst=some d→(Operand.tmp d∈(opAt p).op.operands∨∃ w,gd p=some (d,w))→(q<p∧(pre p).testBit (ord q)=true)∨(p<q∧(pre q).testBit (ord p)=true):=fun q p hq hp hne d hd hr=>by
    have hl:=looks_mem (hall p hp).2.2.1 hr
    rcases Nat.lt_or_gt_of_ne hne with hlt | hlt
    ·rcases (hpair q p hlt hp).2 with h | h
     ·exact .inl ⟨hlt,h⟩
     ·exact absurd hl (h.1 d hd)
    ·rcases (hpair p q hlt hq).2 with h | h
     ·exact .inr ⟨hlt,h⟩
     ·exact absurd hl (h.2 d hd)
   have hgrow:∀ p,p≤ops.size→Grow (SS 0) (SS p):=by
    intro p
    induction p with
    | zero=>intro _;exact Grow.refl _
    | succ p ih=>intro hp;exact (ih (by omega)).trans (hall p (by omega)).2.2.2.2.grow
   rw [hlen] at e4 e5
   have hG:Grow st sf:=by rw [← e2,← e5];exact hgrow _ (Nat.le_refl _)
   have hdfr:∀ p,p<ops.size→∀ d,(opAt p).op≠.defer d:=fun p hp=>by
    obtain ⟨o,gd0,pre0,a1,a2,a3,a4,a5,a6,a7⟩:=e6 p (ord p) (hord p hp)
    have ha1:ops[ord p]?=some o:=by simpa using a1
    rw [Option.some.inj ((hall p hp).1.symm.trans ha1)];exact a7
   have hoff:∀ (p:Pth),(∀ d,d∈(is.map (compDO P n ops.toList pres (compRegion P g n ops.toList ops.toList))).map (·.dst)→d≠some p)→∀ k,k≤ops.size→TM k p=tm p:=by
    intro p hp k
    induction k with
    | zero=>intro _;rw [e1]
    | succ k ih =>
     intro hk
     obtain ⟨o,gd0,pre0,a1,a2,a3,a4,a5,a6,_⟩:=e6 k (ord k) (hord k hk)
     have ha1:ops[ord k]?=some o:=by simpa using a1
     have hop:opAt k=o:=Option.some.inj ((hall k hk).1.symm.trans ha1)
     have hmem:o.dst.map pathOf∈(is.map (compDO P n ops.toList pres (compRegion P g n ops.toList ops.toList))).map (·.dst):=by
      rw [← a6,List.map_map]
      exact List.mem_map.2 ⟨ord k,List.mem_of_getElem? (hord k hk),rfl⟩
     rw [a5.off (hp _ hmem)]
     exact ih (by omega)
   refine ⟨tf,sf,hK,fun p hp=>by rw [← e4];exact hoff p hp _ (Nat.le_refl _),hG,fun σ a w lim hf hg hr hfree hlim hn Q hQ ro Qx hx=>?_⟩
   have hwf:WfS (SS 0):=by rw [e2];exact hr.wf
   have Rn:Run P g n ops.size opAt gd TM SS T (fun p q=>q<ops.size∧(pre p).testBit (ord q)=true):=Run.imp (fun p q hq h=>⟨hq,h⟩) <| run_of (n0:=st.next) (by rw [e2]) hwf e3 (fun p hp=>(hall p hp).2.2.2.2) hdst hreads (fun p hp=>(hall p hp).2.2.2.1)
   have hback:∀ p,p<ops.size→∀ e,e∈(opAt p).after→Region.binds .any e=true→e.on<ord p:=fun p hp e he hb=>by
    have:=backOk_get c4 (ord p) (opAt p) (by simpa using (hall p hp).1) e he (by rw [← binds_any];exact hb)
    omega
   have hpresG:=presOf_get ops.toList [] ops.toList (fun k=>by simp) (fun i m h=>by simp at h)
   rw [hpres] at hpresG
   have hpre:∀ (S:Nat→Prop),(∀ q,q<ops.size→S q→∀ r,(r<ops.size∧(pre q).testBit (ord r)=true)→S r)→∀ p,p<ops.size→(∀ e,e∈(opAt p).after→Region.binds .any e=true→∃ q,q<ops.size∧ord q=e.on∧S q)→∀ r,(r<ops.size∧(pre p).testBit (ord r)=true)→S r:=by
    intro S hcl p hp he r ⟨hr1,hr2⟩
    obtain ⟨o,a1,a2⟩:=hpresG (ord p) (pre p) (hall p hp).2.1
    have:o=opAt p:=by
     have h1:ops[ord p]?=some o:=by simpa using a1
     rw [(hall p hp).1] at h1;cases h1;rfl
    subst this
    obtain ⟨e,b1,b2,m,b3,b4⟩:=a2 (ord r) hr2
    obtain ⟨q,q1,q2,q3⟩:=he e b1 (by rw [binds_any];exact b2)
    rcases b4 with b4 | b4
    ·have:r=q:=hinj r q hr1 q1 (by rw [q2];exact b4)
     rw [this];exact q3
    ·refine hcl q q1 q3 r ⟨hr1, ?_⟩
     rw [← q2,(hall q q1).2.1] at b3
     cases b3;exact b4
   refine wpIn_region_any hm ?_
   have hr':RelH σ st { w with drawn:=w.drawn+1 }:=hr.heap rfl
   have hno:∀ q,¬ (Array.replicate ops.size false).getD (ord q) false=true:=fun q h=>by
    rw [Array.getD_eq_getD_getElem?,Array.getElem?_replicate] at h
    split at h <;> simp at h
   have hcut0:∀ id k,k≤ops.size→Cut SS ops.size (fun q=>(Array.replicate ops.size false).getD (ord q) false=true) id k→(SS k).heap.get id=st.heap.get id:=fun id k hk hc=>by
    have h0:Cut SS ops.size (fun q=>(Array.replicate ops.size false).getD (ord q) false=true) id 0:=⟨fun j hj=>absurd hj (by omega),fun j _ _ _ h=>absurd h (hno j)⟩
    rw [← e2];exact cut_eq hk (Nat.zero_le _) hc h0
   have I0:DInv ops.size a.tmps.size opAt TM SS sf.low σ { w with drawn:=w.drawn+1 } (fun q=>(Array.replicate ops.size false).getD (ord q) false=true) σ a { w with drawn:=w.drawn+1 }:=by
    refine ⟨fun t p _ hS _=>absurd hS (hno p),fun t _=>by rw [e1];exact hf t,rfl,Map.le.refl σ,fun _ _=>rfl,fun id k b hk hc hb=>?_, ?_,Nat.le_refl _,rfl,rfl,rfl,fun _=>rfl,fun _ _ _=>rfl, ?_⟩
    ·rw [hcut0 id k hk hc] at hb;exact hr'.blk id b hb
    ·intro id id' k k' b b' x y hk hk' hc hc' hb hb' hne hown hx hy
     rw [hcut0 id k hk hc] at hb
     rw [hcut0 id' k' hk' hc'] at hb'
     exact hr'.inj id id' b b' x y hb hb' hne hown hx hy
    ·intro id k b x hid hk hc hb hx
     rw [hcut0 id k hk hc] at hb
     have:=hr'.lt id b hb
     rw [e2] at hid;omega
   refine drawn_any Rn rfl (fun p hp=>(hall p hp).1) hsurj hinj (fun p hp=>(hall p hp).2.2.1) hback hpre hn (lo:=sf.low) (by rw [e5];exact Nat.le_refl _) (lim:=lim) (by rw [e2];exact hfree) (by rw [e5];exact hlim) hg (D:=a.defers) ro hdfr ?_ ops.size _ σ a _ (by simp) ?_ ?_ I0 rfl
   ·intro σ' a' w' I hd
    refine hx a' w' (hQ σ' a' w' ?_ ?_ I.sz hd)
    ·have hcN:∀ id,Cut SS ops.size (fun _=>True) id ops.size:=fun id=>⟨fun _ _ _=>trivial,fun j h1 h2=>absurd h2 (by omega)⟩
     have hget:∀ id,(SS ops.size).heap.get id=sf.heap.get id:=fun id=>by rw [e5]
     refine ⟨I.le,fun id hid=>I.only id fun p hp _ hr=>hid ?_,hG.next,⟨fun id b hb=>I.blk id ops.size b (Nat.le_refl _) (hcN id) (by rw [hget];exact hb), ?_,fun id b hb=>(hG.wf hr.wf).lt hb⟩,I.size,I.os,I.tape,I.output,I.fro, ?_,hG.old,hG.gone,hG.keepOwn, ?_,hG.newOwn hr.wf⟩
     ·have h1:=(Rn.grow' (Nat.zero_le p) (Nat.le_of_lt hp)).next
      have h2:=(Rn.grow' (show p+1≤ops.size from hp) (Nat.le_refl _)).next
      rw [e2] at h1;rw [e5] at h2
      omega
     ·intro id id' b b' x y hb hb' hne hown hx hy
      exact I.inj id id' ops.size ops.size b b' x y (Nat.le_refl _) (Nat.le_refl _) (hcN id) (hcN id') (by rw [hget];exact hb) (by rw [hget];exact hb') hne hown hx hy
     ·intro B hB h
      exact I.frame B hB fun id b x hb=>h id b x (by rw [← e2];exact hb)
     ·intro id b x hid hb hx
      rcases I.fresh id ops.size b x (by rw [e2];exact hid) (Nat.le_refl _) (hcN id) (by rw [hget];exact hb) hx with h | ⟨j,b0,y,h1,h2⟩
      ·exact .inl h
      ·exact .inr ⟨j,b0,y,by rw [← e2];exact h1,h2⟩
    ·intro t
     by_cases hex:∃ p,p<ops.size∧(opAt p).dst=some t
     ·obtain ⟨p,hp,hd'⟩:=hex
      rw [← e4,Rn.tm_from hp hd' hp (Nat.le_refl _)]
      exact I.tm1 t p hp trivial hd'
     ·rw [← e4,Rn.tm_at (Nat.le_refl _) fun q hq hd'=>hex ⟨q,hq,hd'⟩]
      exact I.tm0 t fun p hp _ hd'=>hex ⟨p,hp,hd'⟩
   ·unfold left
    have:=List.length_filter_le (fun i=>!(Array.replicate ops.size false).getD i true) (List.range ops.size)
    simpa using this
   ·intro q hq h;exact absurd h (hno q)
end
end
section
set_option linter.unusedSectionVars false
variable [LoopP]
def xe:X→Exit
 | .normal=>.normal
 | .exit i=>.exit i
 | .ret=>.ret
def wpL (P:Program) (ro:Option Nat) (k:Nat):Code→(Exit→Act→World→Prop)→Act→World→Prop
 | .loop b,Q,a,w=>Code.roundsIn (FW ro) 0 P b Q k a w
 | c,Q,a,w=>c.wpIn (FW ro) 0 P Q a w
theorem wpL_wp {P:Program}{ro:Option Nat}{k:Nat}{c:Code}{Q:Exit→Act→World→Prop}{a:Act}{w:World} (h:wpL P ro k c Q a w):c.wpIn (FW ro) 0 P Q a w:=by
 cases c <;> first | exact h | exact wpIn_loop_rounds k h
theorem stepR_scope' {P:Program}{b:Frame}{a:Act}{k:List Item}{cs:List Frame}{w:World}{c:Code}:_root_.Go.step P (lone (b.atR a (.code (.scope c) :: k)) cs w)=.next (lone (b.atR a (.code c :: .inScope c :: k)) cs w) :=
 step_lone_go (by simp [stepG,stepG.exec,Frame.atR])
theorem stepR_inScope' {P:Program}{b:Frame}{a:Act}{k:List Item}{cs:List Frame}{w:World}{c:Code}:_root_.Go.step P (lone (b.atR a (.inScope c :: k)) cs w)=.next (lone (b.atR a k) cs w) :=
 step_lone_go (by simp [stepG,stepG.exec,Frame.atR])
theorem wpIn_scope_straight {F:Fence}{n:Nat}{P:Program}{Q:Exit→Act→World→Prop}{a:Act}{w:World}{c:Code} (h:c.wpIn F n P (Exit.noGoto Q) a w):(Code.scope c).wpIn F n P Q a w:=by
 intro b k cs hro hb hr
 have h0:(lone (b.atR a (.code (.scope c) :: k)) cs w).fenced P F:=fenced_calm hb hr rfl
 obtain ⟨e,a₁,w₁,hq,harr⟩:=h b (.inScope c :: k) cs hro hb hr
 cases e with
 | normal=>exact ⟨.normal,a₁,w₁,hq,.head h0 stepR_scope' (StepsIn.trans harr (.one (fenced_calm hb hr rfl) stepR_inScope'))⟩
 | exit id=>exact ⟨.exit id,a₁,w₁,hq,(fun k' hk=>.head h0 stepR_scope' (harr.1 k' (by simp [exitTo,hk]))),fun hi hk=>let ⟨k₁,h1,h2⟩:=harr.2 hi (by simp [exitTo,hk]);⟨k₁,h1,.head h0 stepR_scope' h2⟩⟩
 | goto l=>exact hq.elim
 | ret=>exact ⟨_,a₁,w₁,hq,.of_steps (.one h0 stepR_scope') harr⟩
 | panic ch=>exact ⟨_,a₁,w₁,hq,.of_steps (.one h0 stepR_scope') harr⟩
 | outgrown=>exact ⟨_,a₁,w₁,hq,.of_steps (.one h0 stepR_scope') harr⟩
def Inv (L:PM Unit) (tm:PM V):Prop:=∀ p,marked L p=true→tm.getP p=none
def markD (D:Nat):Deferred:={ target:=.collected D,args:=#[] }
def Good (σ:Map) (st:St) (w:World) (D:Nat):Prop:=w.heap[D]?=some (.deferred (some []))∧∀ id b x,st.heap.get id=some b→σ id=some x→x.1≠D
theorem Good.ext {σ σ':Map}{st st':St}{w w':World}{lw D:Nat} (h:Good σ st w D) (E:Ext σ σ' st st' w w' lw):Good σ' st' w' D:=by
 have hlt:D<w.heap.size:=(Array.getElem?_eq_some_iff.1 h.1).1
 refine ⟨by rw [E.frame D hlt fun id b x hb _ _ hx=>h.2 id b x hb hx];exact h.1,fun id b x hb hx=>?_⟩
 by_cases hid:id<st.next
 ·obtain ⟨b0,h0,_⟩:=E.keepOwn id b hid hb
  exact h.2 id b0 x h0 (by rw [← E.only id (by omega)];exact hx)
 ·rcases E.fresh id b x (by omega) hb hx with h1 | ⟨j,b0,y,h1,_,_,h4,h5⟩
  ·omega
  ·rw [← h5];exact h.2 j b0 y h1 h4
def DExt (σ:Map) (st:St) (w w':World) (ds ds':List Deferred):Prop:=∃ l:List Nat,ds'=l.map markD ++ ds∧l.Nodup∧∀ D,D∈l→w.heap.size≤D∧Good σ st w' D
theorem DExt.refl {σ:Map}{st:St}{w w':World}{ds ds':List Deferred} (h:ds'=ds):DExt σ st w w' ds ds':=⟨[],by simpa using h,.nil,fun D h=>by cases h⟩
def DoesC (P:Program) (g n:Nat) (tm:Ev) (st:St) (tf:Ev) (sf:St) (run:(Act→World→Prop)→Act→World→Prop):Prop :=
 Grow st sf ∧
 ∀ (σ:Map) (a:Act) (w:World) (lim:Nat),RelF σ tm a.tmps→Globals σ g→RelH σ st w→Free σ st.next lim→sf.next≤lim→n≤a.tmps.size →
  ∀ Q:Act→World→Prop,(∀ σ' a' w',Ext σ σ' st sf w w' sf.low→RelF σ' tf a'.tmps→a'.tmps.size=a.tmps.size→DExt σ' sf w w' a.defers a'.defers→Q a' w')→run Q a w
def CodeAt (P:Program) (g:Nat) (F:Nat→Option HF) (n k:Nat) (rec:HC→PM V→St→R) (code:Code):Prop :=
 ∀ (i:Nat) (hf:HF),F i=some hf→∀ (L:PM Unit) (hc:HC),Er L hc (comp P g n code)→okHC L hc=true→rngsAt i hf.body hc→∀ tm st x tf sf,Inv L tm→rec hc tm st=.done x tf sf →
  Inv L tf∧DoesC P g n (rho tm) st (rho tf) sf (fun Q a w=>∀ (ro:Option Nat),(ro=none∨noRng hc=true)→∀ (Qx:Exit→Act→World→Prop),(∀ a' w',Q a' w'→Qx (xe x) a' w')→wpL P ro k code Qx a w)
def CodeOk (P:Program) (g:Nat) (F:Nat→Option HF) (k:Nat) (rec:HC→PM V→St→R):Prop:=∀ n code,CodeAt P g F n k rec code
def LRel (P:Program) (g:Nat) (F:Nat→Option HF) (σ:Map) (tm:PM V) (fn idx:Nat) (L:Loop):Prop :=
 RelF σ (rho tm) L.tmps∧∃ hf ps a b n m,F fn=some hf∧loopAt hf.body idx=some (ps,a,b)∧Er m a (comp P g n L.assign)∧Er m b (comp P g n L.body)∧okHC m a=true∧okHC m b=true∧noRng a=true∧noRng b=true ∧
  Inv m tm∧n≤L.tmps.size∧ps=L.params.toList.map pathOf∧(∀ t,t∈L.params.toList→t<n)∧outsOk m ps=true
theorem LRel.mono {P:Program}{g:Nat}{F:Nat→Option HF}{σ τ:Map}{tm:PM V}{fn idx:Nat}{L:Loop} (hle:σ.le τ) (h:LRel P g F σ tm fn idx L):LRel P g F τ tm fn idx L:=⟨h.1.mono hle,h.2⟩
theorem LRel.still {P:Program}{g:Nat}{F:Nat→Option HF}{σ:Map}{tm:PM V}{fn idx:Nat}{L:Loop} (s:LoopState) (p:Option Code) (h:LRel P g F σ tm fn idx L):LRel P g F σ tm fn idx { L with state:=s,pending:=p }:=h
def IsLP (P:Program) (g:Nat) (F:Nat→Option HF):Prop:=∀ σ tm fn idx L,LoopP.rel σ tm fn idx L↔LRel P g F σ tm fn idx L
section
variable {P:Program}{g n:Nat}
theorem DoesC.imp {tm tf:Ev}{st sf:St}{r r':(Act→World→Prop)→Act→World→Prop} (h:DoesC P g n tm st tf sf r) (hr:∀ Q a w,r Q a w→r' Q a w):DoesC P g n tm st tf sf r' :=
 ⟨h.1,fun σ a w lim hf hg hh hfree hlim hn Q hQ=>hr Q a w (h.2 σ a w lim hf hg hh hfree hlim hn Q hQ)⟩
theorem DoesC.same {tm:Ev}{st:St}{r:(Act→World→Prop)→Act→World→Prop} (hr:∀ (Q:Act→World→Prop) a w,Q a w→r Q a w):DoesC P g n tm st tm st r :=
 ⟨Grow.refl st,fun σ a w lim hf hg hh hfree hlim hn Q hQ=>hr Q a w (hQ σ a w (Ext.refl hh) hf rfl (.refl rfl))⟩
theorem DoesC.seq {tm tm1 tf:Ev}{st st1 sf:St}{r1 r2 r:(Act→World→Prop)→Act→World→Prop} (h1:DoesC P g n tm st tm1 st1 r1) (h2:DoesC P g n tm1 st1 tf sf r2)
  (hr:∀ Q a w,r1 (r2 Q) a w→r Q a w):DoesC P g n tm st tf sf r:=by
 refine ⟨h1.1.trans h2.1,fun σ a w lim hf hg hh hfree hlim hn Q hQ=>hr Q a w ?_⟩
 refine h1.2 σ a w lim hf hg hh hfree (Nat.le_trans h2.1.next hlim) hn (r2 Q) fun σ' a' w' e1 e2 e3 e4=>?_
 refine h2.2 σ' a' w' lim e2 (hg.mono e1.le) e1.rel (e1.free hfree) hlim (by rw [e3];exact hn) Q fun σ2 a2 w2 f1 f2 f3 f4=>?_
 refine hQ σ2 a2 w2 ((e1.weaken h2.1.low).trans f1) f2 (by rw [f3,e3]) ?_
 obtain ⟨l1,g1,gn,g2⟩:=e4
 obtain ⟨l2,k1,kn,k2⟩:=f4
 refine ⟨l2 ++ l1,by rw [k1,g1];simp,List.nodup_append.2 ⟨kn,gn,fun D hD D' hD' he=>?_⟩,fun D hD=>?_⟩
 ·subst he
  have h3:=(k2 D hD).1
  have h4:=(Array.getElem?_eq_some_iff.1 (g2 D hD').2.1).1
  omega
 rcases List.mem_append.1 hD with hD | hD
 ·have h3:=e1.size
  have h4:=(k2 D hD).1
  exact ⟨by omega,(k2 D hD).2⟩
 ·exact ⟨(g2 D hD).1,(g2 D hD).2.ext f1⟩
theorem rel_opF {σ:Map}{tm:Ev}{a:Act} (hf:RelF σ tm a.tmps) (hg:Globals σ g) {x:Operand}{y:O} (h:compO g x=some y):RelV σ (evO tm y) (a.eval x) :=
 rel_op' (o:={ (default:Oper) with op:=.move x }) hf.relR hg h (by simp [Op.operands])
theorem seq2_done {rec:HC→PM V→St→R}{b:HC}{r:R}{x:X}{tf:PM V}{sf:St} (h:seq2 rec b r=.done x tf sf) :
  (∃ tm1 st1,r=.done .normal tm1 st1∧rec b tm1 st1=.done x tf sf)∨(r=.done x tf sf∧x≠.normal):=by
 cases r with
 | fail w=>cases h
 | done x1 tm1 st1 =>
  cases x1 with
  | normal=>exact .inl ⟨tm1,st1,rfl,h⟩
  | exit i=>cases h;exact .inr ⟨rfl,by simp⟩
  | ret=>cases h;exact .inr ⟨rfl,by simp⟩
theorem then_exit {K:Act→World→Prop}{Q:Exit→Act→World→Prop}{x:X} (hx:x≠.normal) {a:Act}{w:World} (h:Q (xe x) a w):Exit.then K Q (xe x) a w:=by
 cases x with
 | normal=>exact absurd rfl hx
 | exit i=>exact h
 | ret=>exact h
theorem erase_seq {m:PM Unit}{h:HC}{A B:CC} (e:Er m h (.seq A B)):∃ a b,h=.seq a b∧Er m a A∧Er m b B:=by
 cases h <;> simp only [Er] at e
 exact ⟨_,_,rfl,e⟩
theorem erase_cond {m:PM Unit}{h:HC}{y:O}{A B:CC} (e:Er m h (.cond y A B)):∃ a b,h=.cond y a b∧Er m a A∧Er m b B:=by
 cases h <;> simp only [Er] at e
 obtain ⟨rfl,e⟩:=e
 exact ⟨_,_,rfl,e⟩
theorem erase_loop {m:PM Unit}{h:HC}{A:CC} (e:Er m h (.loop A)):∃ a,h=.loop a∧Er m a A:=by
 cases h <;> simp only [Er] at e
 exact ⟨_,rfl,e⟩
theorem erase_block {m:PM Unit}{h:HC}{id:Nat}{A:CC} (e:Er m h (.block id A)):∃ a,h=.block id a∧Er m a A:=by
 cases h <;> simp only [Er] at e
 obtain ⟨rfl,e⟩:=e
 exact ⟨_,rfl,e⟩
theorem erase_region {m:PM Unit}{h:HC}{ops:List CO} (e:Er m h (.region ops)):∃ outs f,RegOk ops outs f∧h=.reg outs f∧outsOk m outs=true∧dstsOk m outs (ops.map (·.dst))=true:=by
 cases h <;> simp only [Er] at e
 exact ⟨_,_,e.1,rfl,e.2⟩
theorem erase_drawn {m:PM Unit}{h:HC}{ops:List DO} (e:Er m h (.drawn ops)):∃ outs f,DrwOk ops outs f∧h=.drw outs f∧outsOk m outs=true∧dstsOk m outs (ops.map (·.dst))=true:=by
 cases h <;> simp only [Er] at e
 exact ⟨_,_,e.1,rfl,e.2⟩
theorem erase_skip {m:PM Unit}{h:HC} (e:Er m h .skip):h=.skip:=by cases h <;> simp only [Er] at e;rfl
theorem erase_ret {m:PM Unit}{h:HC} (e:Er m h .ret):h=.ret:=by cases h <;> simp only [Er] at e;rfl
theorem erase_exit {m:PM Unit}{h:HC}{id:Nat} (e:Er m h (.exit id)):h=.exit id:=by cases h <;> simp only [Er] at e;subst e;rfl
theorem erase_rng {m:PM Unit}{h:HC}{f:O}{ps:List Pth}{A B:CC} (e:Er m h (.rng f ps A B)):∃ fn idx a b,h=.rng fn idx f ps a b∧Er m a A∧Er m b B:=by
 cases h <;> simp only [Er] at e
 obtain ⟨⟨rfl,rfl⟩,e⟩:=e
 exact ⟨_,_,_,_,rfl,e⟩
theorem erase_bad {m:PM Unit}{h:HC}{w:Nat} (e:Er m h (.bad w)):h=.bad w:=by cases h <;> simp only [Er] at e;subst e;rfl
theorem hand_on {L:PM Unit}{outs:List Pth}{dsts:List (Option Pth)}{tm:PM V}{ρ:Ev}{K:PM V→R}{x:X}{tz:PM V}{sz:St} (hI:Inv L tm) (ho:outsOk L outs=true) (hd:dstsOk L outs dsts=true)
  (hoff:∀ p,(∀ d,d∈dsts→d≠some p)→ρ p=rho tm p) (h:setL outs (outsOf outs ρ) tm K=.done x tz sz) :
  ∃ tf,K tf=.done x tz sz∧Inv L tf∧∀ (σ:Map) (tmps:Array Value),RelF σ ρ tmps→RelF σ (rho tf) tmps:=by
 obtain ⟨tf,h1,h2,h3⟩:=setL_done (ρ:=ρ) (K:=K) outs tm
 rw [h1] at h
 refine ⟨tf,h,fun p hp=>?_,fun σ tmps hf t=>?_⟩
 ·rw [h3 p fun hm=>?_]
  ·exact hI p hp
  ·have:=List.all_eq_true.1 ho p hm
   rw [hp] at this;cases this
 ·have h4:=hf t
  show RelV σ (getD' (tf.getP (pathOf t))) _
  by_cases hm:pathOf t∈outs
  ·rw [h2 _ hm];exact h4
  ·rw [h3 _ hm]
   by_cases hex:∃ d,d∈dsts∧d=some (pathOf t)
   ·obtain ⟨d,hd1,rfl⟩:=hex
    rcases dstsOk_of hd hd1 with h5 | h5
    ·rw [hI _ h5];exact .any _
    ·exact absurd h5 hm
   ·have h6:ρ (pathOf t)=rho tm (pathOf t):=hoff _ fun d hd1 he=>hex ⟨d,hd1,he⟩
    have h7:RelV σ (ρ (pathOf t)) (tmps.getD t undef):=h4
    rw [h6] at h7;exact h7
theorem ro_and {ro:Option Nat}{a b:Bool} (h:ro=none∨(a && b)=true):(ro=none∨a=true)∧(ro=none∨b=true):=by
 rcases h with h | h
 ·exact ⟨.inl h,.inl h⟩
 ·simp only [Bool.and_eq_true] at h;exact ⟨.inr h.1,.inr h.2⟩
theorem updL_done {st:St}{id:Nat}{gg:PM V→Nat→Nat→Nat→Option X→(MV→R)→R}{K:Option X→St→R}{x:X}{tf:PM V}{sf:St} (h:updL st id gg K=.done x tf sf) :
  ∃ b tm fn idx s p,st.heap.get id=some b∧b.own=true∧b.k=.loop tm fn idx s p∧gg tm fn idx s p (fun k=>K p (putBlk st id (some ⟨b.own,b.n,b.m,b.z,k⟩)))=.done x tf sf:=by
 obtain ⟨b,hb,h1⟩:=opt_done (show Option.rec (motive:=fun _=>R) (.fail 71) (updB st id gg K) (st.heap.get id)=.done x tf sf from h)
 unfold updB at h1
 split at h1
 ·rename_i tm fn idx s p hk
  obtain ⟨ho,h2⟩:=ite_done h1
  refine ⟨b,tm,fn,idx,s,p,hb,ho,hk, ?_⟩
  have e:(fun k=>hsetK (Nat.succ id) st.heap id (some ⟨b.own,b.n,b.m,b.z,k⟩) fun h=>minK st.low id fun lo=>K p ⟨h,st.next,lo⟩)=fun k=>K p (putBlk st id (some ⟨b.own,b.n,b.m,b.z,k⟩)):=by
   funext k
   rw [hsetK_eq',PM.setK_eq,minK_eq];rfl
  rw [← e];exact h2
 ·cases h1
theorem ext_push {σ:Map}{st:St}{w w':World}{ob:Obj}{lw:Nat} (hr:RelH σ st w) (hfo:∀ a:Addr,a.block=w.heap.size→w'.frozen? a=false)
  (hw:w'.heap=w.heap.push ob) (hos:w'.os=w.os) (htape:w'.tape=w.tape) (hout:w'.output=w.output):Ext σ σ st st w w' lw:=by
 have hold:∀ B,B<w.heap.size→w'.heap[B]?=w.heap[B]?:=fun B hB=>by rw [hw,Array.getElem?_push_lt hB,Array.getElem?_eq_getElem hB]
 have hfro:∀ a,w'.frozen? a=w.frozen? a:=fro_of fun B=>by
  by_cases h1:B<w.heap.size
  ·exact .inl (hold B h1)
  ·by_cases h2:B=w.heap.size
   ·subst h2
    exact .inr ⟨hfo,fro_out (by simp)⟩
   ·exact .inl (by rw [hw,Array.getElem?_eq_none (by simp;omega),Array.getElem?_eq_none (by omega)])
 refine ⟨Map.le.refl σ,fun _ _=>rfl,Nat.le_refl _,⟨fun id b hb=>?_,hr.inj,hr.lt⟩,by rw [hw];simp,hos,htape,hout,hfro,fun B hB _=>hold B hB,fun _ _ _=>rfl,fun _ _ h=>h,fun id b' _ hb'=>⟨b',hb',rfl⟩,fun id b x hid hb _=>absurd (hr.lt id b hb) (by omega),fun id b hid hb=>absurd (hr.lt id b hb) (by omega)⟩
 have hB:=hr.blk id b hb
 obtain ⟨x,hx⟩:=hB.map
 exact hB.world hx (hold _ (hB.lt hx))
theorem stateN_busy {s:LoopState} (h:stateN s≠1):s≠.busy:=fun hh=>h (by rw [hh];rfl)
theorem rng_step {F:Nat→Option HF} (hLP:IsLP P g F) {call:CallK}{k:Nat}{rec:HC→PM V→St→R} (hcall:CallOk P g call) {f:Operand}{ps:Array Tmp}{ca cb:Code}{i:Nat}{hf:HF}{L:PM Unit}{hc:HC} (e:Er L hc (comp P g n (.rangeFunc f ps ca cb))) (ok:okHC L hc=true) (hFi:F i=some hf) (hrn:rngsAt i hf.body hc)
  {tm:PM V}{st:St}{x:X}{tf:PM V}{sf:St} (hI:Inv L tm) (h:step call rec hc tm st=.done x tf sf) :
  Inv L tf∧DoesC P g n (rho tm) st (rho tf) sf (fun Q a w=>∀ (ro:Option Nat),(ro=none∨noRng hc=true)→∀ (Qx:Exit→Act→World→Prop),(∀ a' w',Q a' w'→Qx (xe x) a' w')→wpL P ro (k+1) (.rangeFunc f ps ca cb) Qx a w):=by
 simp only [comp] at e
 split at e
 rotate_left
 ·obtain rfl:=erase_bad e;cases h
 rename_i y hcf
 split at e
 rotate_left
 ·obtain rfl:=erase_bad e;cases h
 rename_i hps
 obtain ⟨fn,idx,a',b',rfl,ea,eb⟩:=erase_rng e
 obtain ⟨hfn,hloop⟩:=hrn
 subst hfn
 simp only [okHC,Bool.and_eq_true] at ok
 obtain ⟨⟨oko,okna,oknb⟩,oka,okb⟩:=ok
 obtain ⟨s,hz,h1⟩:=asSc_done (show asSc 50 (evO (rho tm) y) (fun s=>(match uncap s with | some (g,cl)=>rngK call fn idx tm st g cl | none=>.fail 78))=.done x tf sf from h)
 cases hu:uncap s with
 | none=>rw [hu] at h1;cases h1
 | some p0 =>
  obtain ⟨g0,cl⟩:=p0
  rw [hu] at h1
  simp only at h1
  unfold rngK at h1
  obtain ⟨hlt,h2⟩:=ite_done h1
  have hlt:=blt_of hlt
  rw [seqN_eq,hsetK_eq',PM.setK_eq] at h2
  let lb:Blk:=⟨true,0,.leaf,[],.loop tm fn idx 0 none⟩
  have h3:call g0 (.sc (.yld st.next) :: cl) (newBlk st lb) (fun _ st'=>closeK st.next st' fun p st'=>.done (p.getD .normal) tm st')=.done x tf sf:=h2
  obtain ⟨v,st',hK,hgrow,harm⟩:=hcall _ _ _ _ _ _ _ h3
  rcases harm with ⟨_,hfun,hcalls⟩ | ⟨hge,_⟩
  rotate_left
  ·exact absurd hge (by omega)
  obtain ⟨b,tm',fn',idx',s',p,hb,ho,hk,h4⟩:=updL_done (show updL st' st.next (fun tm fn idx s p k=>iteB (Nat.beq s 1) (.fail 73) (k (.loop tm fn idx 3 p))) (fun p st'=>.done (p.getD .normal) tm st')=.done x tf sf from hK)
  have hs1:s'≠1:=fun hh=>by subst hh;cases h4
  have h5:R.done (p.getD .normal) tm (putBlk st' st.next (some ⟨b.own,b.n,b.m,b.z,.loop tm' fn' idx' 3 p⟩))=.done x tf sf:=by
   rw [iteB_eq] at h4
   split at h4
   ·cases h4
   ·exact h4
  cases h5
  have gput:Grow st' (putBlk st' st.next (some ⟨b.own,b.n,b.m,b.z,.loop tm' fn' idx' 3 p⟩)):=grow_put hb rfl
  have gnew:Grow st (newBlk st lb):=grow_new st rfl
  refine ⟨hI,(gnew.trans hgrow).trans gput,fun σ a w lim hfr hg hr hfree hlim hn Q hQ ro hro Qx hx=>?_⟩
  have hro0:ro=none:=hro.resolve_right (by simp [noRng])
  subst hro0
  show (Code.rangeFunc f ps ca cb).wpIn (FW none) 0 P Qx a w
  have r:=rel_opF hfr hg hcf
  rw [hz] at r
  cases r with
  | sc r =>
   rcases uncap_rel hu r with ⟨_,caps,hv,hcl⟩ | ⟨_,id,B,o',c',hfe,_,_⟩
   rotate_left
   ·exact absurd hfe (by omega)
   refine wpIn_rangeFunc fun fnb _=>?_
   let Lr:Loop:={ state:=.ready,pending:=none,fn:=fnb,tmps:=a.tmps,params:=ps,assign:=ca,body:=cb,defers:=w.heap.size }
   let wD:World:={ w with heap:=w.heap.push (.deferred (some [])) }
   let w1:World:={ wD with heap:=wD.heap.push (.loop Lr) }
   have hq1:st.next+1≤st'.next:=hgrow.next
   have hq3:st'.next≤lim:=Nat.le_trans gput.next hlim
   have hfresh:σ st.next=none:=hfree _ (Nat.le_refl _) (by omega)
   have E0:Ext σ σ st st w wD st.low:=ext_push hr (fun ad hb=>by simp [World.frozen?,wD,hb]) rfl rfl rfl rfl
   have hLR:LRel P g F σ tm fn idx Lr:=⟨hfr,hf,_,a',b',n,L,hFi,hloop,ea,eb,oka,okb,okna,oknb,hI,hn,rfl,fun t ht=>blt_of (List.all_eq_true.1 hps t ht),oko⟩
   have E1:Ext σ (σ.put st.next (wD.heap.size,0,0)) st (newBlk st lb) wD w1 st.low:=ext_new E0.rel hfresh rfl (.loop rfl rfl rfl rfl rfl rfl ((hLP _ _ _ _ _).2 hLR)) rfl rfl rfl rfl
   have hDs:wD.heap.size=w.heap.size+1:=by simp [wD]
   have E01:Ext σ (σ.put st.next (wD.heap.size,0,0)) st (newBlk st lb) w w1 st.low:=E0.trans E1
   refine ⟨w.heap.size+1,[markD w.heap.size],w1,{ target:=.fn (.func g0) caps,args:=#[.func (.yield (w.heap.size+1)) #[] #[]] },w1,g0,#[.func (.yield (w.heap.size+1)) #[] #[]] ++ caps,w1,run_enterLoop_outer fnb a.tmps ps ca cb, ?_,fun _ _=>trivial, ?_,fun h0=>absurd h0 (by simp [Fence.wide]), ?_⟩
   ·simp only [resolve,rangeCall,hv,Deferred.ofValue,Sem.run_bind,Sem.run_pure,Result.andThen_ok]
    simp [Act.eval]
   ·obtain ⟨ff,q1,q2,q3⟩:=hfun
    simp only [invoke,callFunc,Sem.run_bind,run_program,Result.andThen_ok,q1,q2,q3,Bool.false_eq_true,if_false,Sem.run_pure]
   ·have hc:=hcalls (σ.put st.next (wD.heap.size,0,0)) (#[.func (.yield (w.heap.size+1)) #[] #[]] ++ caps) w1 lim
     (by
      have:(#[Value.func (.yield (w.heap.size+1)) #[] #[]] ++ caps).toList=.func (.yield (w.heap.size+1)) #[] #[] :: caps.toList:=by simp
      rw [this]
      exact .cons (.sc (by rw [← hDs];exact .yld (Map.put_same _ _ _))) (hcl.imp fun _ _ hh=>hh.mono E01.le))
     (hg.mono E01.le) E01.rel (E01.free hfree) (Nat.le_trans gput.next hlim)
    refine CallsIn.mono (F:=FW none) (n:=0 - 1) (callsIn_wide (n:=0 - 1).2 hc) fun e w2 he=>?_
    obtain ⟨v',σ2,rfl,E2,_⟩:=he
    have hid2:σ2 st.next=some (wD.heap.size,0,0):=E2.le _ _ (Map.put_same _ _ _)
    obtain ⟨B,o,c,ob,q1,q2,q3⟩:=E2.rel.blk _ _ hb
    rw [hid2] at q1;cases q1
    cases q3 with
    | cells k1=>rw [hk] at k1;cases k1
    | map k1=>rw [hk] at k1;cases k1
    | loop k1 k2 k3 k4 k5 k6 k7 =>
     rename_i tm2 fn2 idx2 s2 p2 L2
     rw [hk] at k1;cases k1
     have hbz:L2.state≠.busy:=stateN_busy (by rw [k5];exact hs1)
     rw [hDs] at q2 hid2
     have hBlt:w.heap.size+1<w2.heap.size:=(Array.getElem?_eq_some_iff.1 q2).1
     let w4:World:=w2.putObj (w.heap.size+1) (.loop { L2 with state:=.exhausted })
     have hB4:RelB σ2 st.next ⟨b.own,b.n,b.m,b.z,.loop tm' fn' idx' 3 p⟩ w4 :=
      ⟨w.heap.size+1,0,0,_,hid2,World.putObj_heap_same hBlt,.loop rfl k2 rfl rfl rfl k6 (LoopP.still .exhausted L2.pending k7)⟩
     have E3:Ext σ2 σ2 st' (putBlk st' st.next (some ⟨b.own,b.n,b.m,b.z,.loop tm' fn' idx' 3 p⟩)) w2 w4 (min st'.low st.next) :=
      ext_put E2.rel hb ho ho hid2 hB4 (fun B' hB'=>World.putObj_heap_other hB') World.putObj_size rfl rfl rfl
     have E12:Ext σ σ2 st st' w w2 st'.low:=(E01.weaken hgrow.low).trans E2
     have E:Ext σ σ2 st (putBlk st' st.next (some ⟨b.own,b.n,b.m,b.z,.loop tm' fn' idx' 3 p⟩)) w w4 (min st'.low st.next):=(E12.weaken (Nat.min_le_left _ _)).trans E3
     have G1:Good (σ.put st.next (wD.heap.size,0,0)) (newBlk st lb) w1 w.heap.size:=by
      refine ⟨by simp [w1,wD,Array.getElem?_push],fun id b0 x0 hb0 hx0=>?_⟩
      rw [newBlk_get] at hb0
      by_cases hii:id=st.next
      ·subst hii;rw [Map.put_same] at hx0;cases hx0;simp only;omega
      ·rw [if_neg hii] at hb0
       rw [Map.put_other _ _ hii] at hx0
       have:=(hr.blk id b0 hb0).lt hx0
       omega
     have G4:=(G1.ext E2).ext E3
     have hfin:Qx (xe (p.getD .normal)) { a with defers:=markD w.heap.size :: a.defers } w4 :=
      hx _ _ (hQ σ2 { a with defers:=markD w.heap.size :: a.defers } w4 E (hfr.mono E.le) rfl ⟨[w.heap.size],rfl,by simp,fun D hD=>by
       have:D=w.heap.size:=by simpa using hD
       subst this
       exact ⟨Nat.le_refl _,G4⟩⟩)
     refine ⟨L2.pending,w4,run_endLoop q2 hbz, ?_⟩
     rw [k6]
     cases p with
     | none=>exact hfin
     | some q =>
      cases q with
      | normal=>exact wpIn_skip hfin
      | exit id=>exact wpIn_exit hfin
      | ret=>exact wpIn_ret hfin
theorem code_step {F:Nat→Option HF} (hLP:IsLP P g F) {call:CallK}{k:Nat}{rec:HC→PM V→St→R} (hm:P.follows .mixedOrders=true) (hcall:CallOk P g call) (IH:CodeOk P g F k rec):∀ code:Code,CodeAt P g F n (k+1) (step call rec) code
 | .skip=>fun i hf hFi L hc e ok hrn tm st x tf sf hI h=>by obtain rfl:=erase_skip e;cases h;exact ⟨hI,DoesC.same fun Q a w hq ro hro Qx hx=>wpIn_skip (hx a w hq)⟩
 | .label l=>fun i hf hFi L hc e ok hrn tm st x tf sf hI h=>by obtain rfl:=erase_skip e;cases h;exact ⟨hI,DoesC.same fun Q a w hq ro hro Qx hx=>wpIn_label (hx a w hq)⟩
 | .exit id=>fun i hf hFi L hc e ok hrn tm st x tf sf hI h=>by obtain rfl:=erase_exit e;cases h;exact ⟨hI,DoesC.same fun Q a w hq ro hro Qx hx=>wpIn_exit (hx a w hq)⟩
 | .ret=>fun i hf hFi L hc e ok hrn tm st x tf sf hI h=>by obtain rfl:=erase_ret e;cases h;exact ⟨hI,DoesC.same fun Q a w hq ro hro Qx hx=>wpIn_ret (hx a w hq)⟩
 | .goto l=>fun i hf hFi L hc e ok hrn tm st x tf sf hI h=>by obtain rfl:=erase_bad e;cases h
 | .refuse l=>fun i hf hFi L hc e ok hrn tm st x tf sf hI h=>by obtain rfl:=erase_bad e;cases h
 | .rangeFunc f ps a b=>fun i hf hFi L hc e ok hrn tm st x tf sf hI h=>rng_step hLP hcall e ok hFi hrn hI h
 | .region id ops false=>fun i hf hFi L hc e ok hrn tm st x tf sf hI h=>by
  obtain ⟨outs,f,hok,rfl,okr⟩:=erase_region e
  have h0:f call (rho tm) st (fun l st=>setL outs l tm fun tm=>.done .normal tm st)=.done x tf sf:=h
  rw [← hok] at h0
  obtain ⟨ρ,s1,h1,hoff,h2⟩:=seq_region (ops:=ops) hcall ops.toList 0 (fun i=>by simp) h0
  obtain ⟨t1,h3,h4,h5⟩:=hand_on hI okr.1 okr.2 hoff h1
  cases h3
  refine ⟨h4,h2.1,fun σ a w lim hf hg hh hfree hlim hn Q hQ ro hro Qx hx=>wpIn_region ?_⟩
  have:=h2.2 σ a w lim hf hg hh hfree hlim hn Q (fun σ' a' w' q1 q2 q3 q4=>hQ σ' a' w' q1 (h5 _ _ q2) q3 (.refl q4)) ro Qx hx
  rw [List.range_eq_range']
  simpa using this
 | .region id ops true=>fun i hf hFi L hc e ok hrn tm st x tf sf hI h=>by
  obtain ⟨outs,f,hok,rfl,okr⟩:=erase_drawn e
  have h0:f call (rho tm) st (fun l st=>setL outs l tm fun tm=>.done .normal tm st)=.done x tf sf:=h
  rw [← hok] at h0
  obtain ⟨ρ,s1,h1,hoff,h2⟩:=drawn_region hcall hm (id:=id) h0
  obtain ⟨t1,h3,h4,h5⟩:=hand_on hI okr.1 okr.2 hoff h1
  cases h3
  exact ⟨h4,h2.1,fun σ a w lim hf hg hh hfree hlim hn Q hQ ro hro Qx hx=>h2.2 σ a w lim hf hg hh hfree hlim hn Q (fun σ' a' w' q1 q2 q3 q4=>hQ σ' a' w' q1 (h5 _ _ q2) q3 (.refl q4)) ro Qx hx⟩
 | .seq a b=>fun i hf hFi L hc e ok hrn tm st x tf sf hI h=>by
  obtain ⟨a',b',rfl,ea,eb⟩:=erase_seq e
  simp only [okHC,Bool.and_eq_true] at ok
  rcases seq2_done (show seq2 rec b' (rec a' tm st)=.done x tf sf from h) with ⟨tm1,st1,h1,h2⟩ | ⟨h1,h2⟩
  ·obtain ⟨i1,d1⟩:=IH n a i hf hFi L a' ea ok.1 hrn.1 tm st .normal tm1 st1 hI h1
   obtain ⟨i2,d2⟩:=IH n b i hf hFi L b' eb ok.2 hrn.2 tm1 st1 x tf sf i1 h2
   refine ⟨i2,d1.seq d2 fun Q ac w hq ro hro Qx hx=>wpIn_seq ?_⟩
   have hr2:=ro_and hro
   exact wpL_wp (hq ro hr2.1 _ fun a' w' hr=>wpL_wp (hr ro hr2.2 Qx hx))
  ·obtain ⟨i1,d1⟩:=IH n a i hf hFi L a' ea ok.1 hrn.1 tm st x tf sf hI h1
   refine ⟨i1,d1.imp fun Q ac w hq ro hro Qx hx=>wpIn_seq ?_⟩
   exact wpL_wp (hq ro (ro_and hro).1 _ fun a' w' hr=>then_exit h2 (hx a' w' hr))
 | .loop b=>fun i hf hFi L hc e ok hrn tm st x tf sf hI h=>by
  obtain ⟨b',rfl,eb⟩:=erase_loop e
  simp only [okHC] at ok
  rcases seq2_done (show seq2 rec (.loop b') (rec b' tm st)=.done x tf sf from h) with ⟨tm1,st1,h1,h2⟩ | ⟨h1,h2⟩
  ·obtain ⟨i1,d1⟩:=IH n b i hf hFi L b' eb ok hrn tm st .normal tm1 st1 hI h1
   obtain ⟨i2,d2⟩:=IH n (.loop b) i hf hFi L (.loop b') e (by simpa only [okHC] using ok) hrn tm1 st1 x tf sf i1 h2
   refine ⟨i2,d1.seq d2 fun Q ac w hq ro hro Qx hx=>?_⟩
   show Code.wpIn (FW ro) 0 P b (Exit.then (Code.roundsIn (FW ro) 0 P b Qx k) Qx) ac w
   exact wpL_wp (hq ro hro _ fun a' w' hr=>hr ro hro Qx hx)
  ·obtain ⟨i1,d1⟩:=IH n b i hf hFi L b' eb ok hrn tm st x tf sf hI h1
   refine ⟨i1,d1.imp fun Q ac w hq ro hro Qx hx=>?_⟩
   show Code.wpIn (FW ro) 0 P b (Exit.then (Code.roundsIn (FW ro) 0 P b Qx k) Qx) ac w
   exact wpL_wp (hq ro hro _ fun a' w' hr=>then_exit h2 (hx a' w' hr))
 | .block id b=>fun i hf hFi L hc e ok hrn tm st x tf sf hI h=>by
  obtain ⟨b',rfl,eb⟩:=erase_block e
  simp only [okHC] at ok
  have h':block2 id (rec b' tm st)=.done x tf sf:=h
  cases hr:rec b' tm st with
  | fail w=>rw [hr] at h';cases h'
  | done x1 tm1 st1 =>
   rw [hr] at h'
   obtain ⟨i1,main⟩:=IH n b i hf hFi L b' eb ok hrn tm st x1 tm1 st1 hI hr
   cases x1 with
   | normal =>
    cases h'
    exact ⟨i1,main.imp fun Q ac w hq ro hro Qx hx=>wpIn_block (wpL_wp (hq ro hro _ fun a' w' hr=>hx a' w' hr))⟩
   | ret =>
    cases h'
    exact ⟨i1,main.imp fun Q ac w hq ro hro Qx hx=>wpIn_block (wpL_wp (hq ro hro _ fun a' w' hr=>hx a' w' hr))⟩
   | exit j =>
    have h2:iteB (Nat.beq j id) (R.done .normal tm1 st1) (R.done (.exit j) tm1 st1)=R.done x tf sf:=h'
    rw [iteB_eq] at h2
    split at h2
    ·rename_i hj
     cases h2
     obtain rfl:=beq_of hj
     exact ⟨i1,main.imp fun Q ac w hq ro hro Qx hx=>wpIn_block (wpL_wp (hq ro hro _ fun a' w' hr=>by show Exit.inBlock j Qx (.exit j) a' w';simp only [Exit.inBlock,if_true];exact hx a' w' hr))⟩
    ·rename_i hj
     cases h2
     have hne:¬ j=id:=fun he=>hj (by rw [he];exact Nat.beq_refl _)
     exact ⟨i1,main.imp fun Q ac w hq ro hro Qx hx=>wpIn_block (wpL_wp (hq ro hro _ fun a' w' hr=>by show Exit.inBlock id Qx (.exit j) a' w';simp only [Exit.inBlock,if_neg hne];exact hx a' w' hr))⟩
 | .scope b=>fun i hf hFi L hc e ok hrn tm st x tf sf hI h=>by
  obtain ⟨i1,d1⟩:=code_step hLP hm hcall IH b i hf hFi L hc e ok hrn tm st x tf sf hI h
  refine ⟨i1,d1.imp fun Q ac w hq ro hro Qx hx=>wpIn_scope_straight (wpL_wp (hq ro hro _ fun a' w' hr=>?_))⟩
  cases x <;> exact hx a' w' hr
 | .cond c a b=>fun i hf hFi L hc e ok hrn tm st x tf sf hI h=>by
  cases hcc:compO g c with
  | none =>
   have:comp P g n (.cond c a b)=.bad 110:=by simp only [comp,hcc]
   rw [this] at e
   obtain rfl:=erase_bad e
   cases h
  | some y =>
   have:comp P g n (.cond c a b)=.cond y (comp P g n a) (comp P g n b):=by simp only [comp,hcc]
   rw [this] at e
   obtain ⟨a',b',rfl,ea,eb⟩:=erase_cond e
   simp only [okHC,Bool.and_eq_true] at ok
   obtain ⟨t,h1,h2⟩:=asBool_done (show asBool' 95 (evO (rho tm) y) (fun c=>iteB c (rec a' tm st) (rec b' tm st))=.done x tf sf from h)
   have main:Inv L tf∧DoesC P g n (rho tm) st (rho tf) sf (fun Q ac w=>∀ (ro:Option Nat),(ro=none∨noRng (.cond y a' b')=true)→∀ (Qx:Exit→Act→World→Prop),(∀ a' w',Q a' w'→Qx (xe x) a' w')→(if t then a else b).wpIn (FW ro) 0 P Qx ac w):=by
    cases t with
    | true =>
     obtain ⟨i1,d1⟩:=IH n a i hf hFi L a' ea ok.1 hrn.1 tm st x tf sf hI h2
     exact ⟨i1,d1.imp fun Q ac w hq ro hro Qx hx=>wpL_wp (hq ro (ro_and hro).1 Qx hx)⟩
    | false =>
     obtain ⟨i1,d1⟩:=IH n b i hf hFi L b' eb ok.2 hrn.2 tm st x tf sf hI h2
     exact ⟨i1,d1.imp fun Q ac w hq ro hro Qx hx=>wpL_wp (hq ro (ro_and hro).2 Qx hx)⟩
   refine ⟨main.1,main.2.1,fun σ ac w lim hfr hg hh hfree hlim hn Q hQ ro hro Qx hx=>?_⟩
   have r:=rel_opF hfr hg hcc
   rw [h1] at r
   have he:ac.eval c=.bool t:=by
    cases r with
    | sc r=>generalize ac.eval c=v at r;cases r;rfl
   exact wpIn_cond he (main.2.2 σ ac w lim hfr hg hh hfree hlim hn Q hQ ro hro Qx hx)
def CodeGr (P:Program) (g:Nat) (rec:HC→PM V→St→R):Prop:=∀ n code L hc,Er L hc (comp P g n code)→∀ tm st x tf sf,rec hc tm st=.done x tf sf→Grow st sf
theorem code_grow {call:CallK}{rec:HC→PM V→St→R} (hm:P.follows .mixedOrders=true) (hcall:CallOk P g call) (IH:CodeGr P g rec):∀ code:Code,∀ L hc,Er L hc (comp P g n code)→∀ tm st x tf sf,step call rec hc tm st=.done x tf sf→Grow st sf
 | .skip=>fun L hc e tm st x tf sf h=>by obtain rfl:=erase_skip e;cases h;exact Grow.refl _
 | .label l=>fun L hc e tm st x tf sf h=>by obtain rfl:=erase_skip e;cases h;exact Grow.refl _
 | .exit id=>fun L hc e tm st x tf sf h=>by obtain rfl:=erase_exit e;cases h;exact Grow.refl _
 | .ret=>fun L hc e tm st x tf sf h=>by obtain rfl:=erase_ret e;cases h;exact Grow.refl _
 | .goto l=>fun L hc e tm st x tf sf h=>by obtain rfl:=erase_bad e;cases h
 | .refuse l=>fun L hc e tm st x tf sf h=>by obtain rfl:=erase_bad e;cases h
 | .rangeFunc f ps ca cb=>fun L hc e tm st x tf sf h=>by
  simp only [comp] at e
  split at e
  rotate_left
  ·obtain rfl:=erase_bad e;cases h
  split at e
  rotate_left
  ·obtain rfl:=erase_bad e;cases h
  rename_i y hcf hps
  obtain ⟨fn,idx,a',b',rfl,ea,eb⟩:=erase_rng e
  obtain ⟨s,hz,h1⟩:=asSc_done (show asSc 50 (evO (rho tm) y) (fun s=>(match uncap s with | some (g,cl)=>rngK call fn idx tm st g cl | none=>.fail 78))=.done x tf sf from h)
  cases hu:uncap s with
  | none=>rw [hu] at h1;cases h1
  | some p0 =>
   obtain ⟨g0,cl⟩:=p0
   rw [hu] at h1
   simp only at h1
   unfold rngK at h1
   obtain ⟨hlt,h2⟩:=ite_done h1
   rw [seqN_eq,hsetK_eq',PM.setK_eq] at h2
   let lb:Blk:=⟨true,0,.leaf,[],.loop tm fn idx 0 none⟩
   have h3:call g0 (.sc (.yld st.next) :: cl) (newBlk st lb) (fun _ st'=>closeK st.next st' fun p st'=>.done (p.getD .normal) tm st')=.done x tf sf:=h2
   obtain ⟨v,st',hK,hgrow,_⟩:=hcall _ _ _ _ _ _ _ h3
   obtain ⟨b,tm',fn',idx',s',p,hb,ho,hk,h4⟩:=updL_done (show updL st' st.next (fun tm fn idx s p k=>iteB (Nat.beq s 1) (.fail 73) (k (.loop tm fn idx 3 p))) (fun p st'=>.done (p.getD .normal) tm st')=.done x tf sf from hK)
   rw [iteB_eq] at h4
   split at h4
   ·cases h4
   ·cases h4
    exact ((grow_new st (b:=lb) rfl).trans hgrow).trans (grow_put hb rfl)
 | .region id ops false=>fun L hc e tm st x tf sf h=>by
  obtain ⟨outs,f,hok,rfl,_⟩:=erase_region e
  have h0:f call (rho tm) st (fun l st=>setL outs l tm fun tm=>.done .normal tm st)=.done x tf sf:=h
  rw [← hok] at h0
  obtain ⟨ρ,s1,h1,hoff,h2⟩:=seq_region (ops:=ops) hcall ops.toList 0 (fun i=>by simp) h0
  obtain ⟨t1,h3,_⟩:=setL_done (ρ:=ρ) (K:=fun tm=>R.done .normal tm s1) outs tm
  have h4:setL outs (outsOf outs ρ) tm (fun tm=>R.done .normal tm s1)=.done x tf sf:=h1
  rw [h3] at h4;cases h4
  exact h2.1
 | .region id ops true=>fun L hc e tm st x tf sf h=>by
  obtain ⟨outs,f,hok,rfl,_⟩:=erase_drawn e
  have h0:f call (rho tm) st (fun l st=>setL outs l tm fun tm=>.done .normal tm st)=.done x tf sf:=h
  rw [← hok] at h0
  obtain ⟨ρ,s1,h1,hoff,h2⟩:=drawn_region hcall hm (id:=id) h0
  obtain ⟨t1,h3,_⟩:=setL_done (ρ:=ρ) (K:=fun tm=>R.done .normal tm s1) outs tm
  have h4:setL outs (outsOf outs ρ) tm (fun tm=>R.done .normal tm s1)=.done x tf sf:=h1
  rw [h3] at h4;cases h4
  exact h2.1
 | .seq a b=>fun L hc e tm st x tf sf h=>by
  obtain ⟨a',b',rfl,ea,eb⟩:=erase_seq e
  rcases seq2_done (show seq2 rec b' (rec a' tm st)=.done x tf sf from h) with ⟨tm1,st1,h1,h2⟩ | ⟨h1,h2⟩
  ·exact (IH n a L a' ea tm st .normal tm1 st1 h1).trans (IH n b L b' eb tm1 st1 x tf sf h2)
  ·exact IH n a L a' ea tm st x tf sf h1
 | .loop b=>fun L hc e tm st x tf sf h=>by
  obtain ⟨b',rfl,eb⟩:=erase_loop e
  rcases seq2_done (show seq2 rec (.loop b') (rec b' tm st)=.done x tf sf from h) with ⟨tm1,st1,h1,h2⟩ | ⟨h1,h2⟩
  ·exact (IH n b L b' eb tm st .normal tm1 st1 h1).trans (IH n (.loop b) L (.loop b') e tm1 st1 x tf sf h2)
  ·exact IH n b L b' eb tm st x tf sf h1
 | .block id b=>fun L hc e tm st x tf sf h=>by
  obtain ⟨b',rfl,eb⟩:=erase_block e
  have h':block2 id (rec b' tm st)=.done x tf sf:=h
  cases hr:rec b' tm st with
  | fail w=>rw [hr] at h';cases h'
  | done x1 tm1 st1 =>
   rw [hr] at h'
   have main:=IH n b L b' eb tm st x1 tm1 st1 hr
   cases x1 with
   | normal=>cases h';exact main
   | ret=>cases h';exact main
   | exit j =>
    have h2:iteB (Nat.beq j id) (R.done .normal tm1 st1) (R.done (.exit j) tm1 st1)=R.done x tf sf:=h'
    rw [iteB_eq] at h2
    split at h2
    ·cases h2;exact main
    ·cases h2;exact main
 | .scope b=>fun L hc e tm st x tf sf h=>code_grow hm hcall IH b L hc e tm st x tf sf h
 | .cond c a b=>fun L hc e tm st x tf sf h=>by
  cases hcc:compO g c with
  | none =>
   have:comp P g n (.cond c a b)=.bad 110:=by simp only [comp,hcc]
   rw [this] at e
   obtain rfl:=erase_bad e
   cases h
  | some y =>
   have:comp P g n (.cond c a b)=.cond y (comp P g n a) (comp P g n b):=by simp only [comp,hcc]
   rw [this] at e
   obtain ⟨a',b',rfl,ea,eb⟩:=erase_cond e
   obtain ⟨t,h1,h2⟩:=asBool_done (show asBool' 95 (evO (rho tm) y) (fun c=>iteB c (rec a' tm st) (rec b' tm st))=.done x tf sf from h)
   cases t with
   | true=>exact IH n a L a' ea tm st x tf sf h2
   | false=>exact IH n b L b' eb tm st x tf sf h2
theorem loopAt_comp {L:PM Unit}:∀ (code:Code) {hc:HC}{i:Nat}{ps:List Pth}{a b:HC},Er L hc (comp P g n code)→loopAt hc i=some (ps,a,b)→∃ ca cb,Er L a (comp P g n ca)∧Er L b (comp P g n cb)
 | .skip,hc,i,ps,a,b,e,h=>by obtain rfl:=erase_skip e;cases h
 | .label l,hc,i,ps,a,b,e,h=>by obtain rfl:=erase_skip e;cases h
 | .exit id,hc,i,ps,a,b,e,h=>by obtain rfl:=erase_exit e;cases h
 | .ret,hc,i,ps,a,b,e,h=>by obtain rfl:=erase_ret e;cases h
 | .goto l,hc,i,ps,a,b,e,h=>by obtain rfl:=erase_bad e;cases h
 | .refuse l,hc,i,ps,a,b,e,h=>by obtain rfl:=erase_bad e;cases h
 | .region id ops false,hc,i,ps,a,b,e,h=>by obtain ⟨outs,f,hok,rfl,_⟩:=erase_region e;cases h
 | .region id ops true,hc,i,ps,a,b,e,h=>by obtain ⟨outs,f,hok,rfl,_⟩:=erase_drawn e;cases h
 | .seq x y,hc,i,ps,a,b,e,h=>by
  obtain ⟨a',b',rfl,ea,eb⟩:=erase_seq e
  simp only [loopAt] at h
  split at h
  ·rename_i r hr;cases h;exact loopAt_comp x ea hr
  ·exact loopAt_comp y eb h
 | .loop x,hc,i,ps,a,b,e,h=>by obtain ⟨b',rfl,eb⟩:=erase_loop e;exact loopAt_comp x eb h
 | .block id x,hc,i,ps,a,b,e,h=>by obtain ⟨b',rfl,eb⟩:=erase_block e;exact loopAt_comp x eb h
 | .scope x,hc,i,ps,a,b,e,h=>loopAt_comp x (hc:=hc) e h
 | .cond c x y,hc,i,ps,a,b,e,h=>by
  cases hcc:compO g c with
  | none =>
   have:comp P g n (.cond c x y)=.bad 110:=by simp only [comp,hcc]
   rw [this] at e
   obtain rfl:=erase_bad e
   cases h
  | some z =>
   have:comp P g n (.cond c x y)=.cond z (comp P g n x) (comp P g n y):=by simp only [comp,hcc]
   rw [this] at e
   obtain ⟨a',b',rfl,ea,eb⟩:=erase_cond e
   simp only [loopAt] at h
   split at h
   ·rename_i r hr;cases h;exact loopAt_comp x ea hr
   ·exact loopAt_comp y eb h
 | .rangeFunc f qs ca cb,hc,i,ps,a,b,e,h=>by
  simp only [comp] at e
  split at e
  rotate_left
  ·obtain rfl:=erase_bad e;cases h
  split at e
  rotate_left
  ·obtain rfl:=erase_bad e;cases h
  obtain ⟨fn,idx,a',b',rfl,ea,eb⟩:=erase_rng e
  simp only [loopAt] at h
  split at h
  ·cases h;exact ⟨ca,cb,ea,eb⟩
  ·cases h
end
end
section
set_option linter.unusedSectionVars false
variable [LoopP]
section
variable {P:Program}{g:Nat}
theorem setL_args {K:PM V→R}{m:PM Unit}:∀ (ps:List Pth) (k:Nat) (l:List V) (tm:PM V),argsOk m ps k=true→∃ tf,setL ps l tm K=K tf∧(∀ p,p ∉ ps→tf.getP p=tm.getP p)∧(∀ p,p∈ps→marked m p=false∧∃ t,k≤t∧p=pathOf t) ∧
      ∀ t,k≤t→tf.getP (pathOf t)=tm.getP (pathOf t)∨∃ v,l[t - k]?=some v∧tf.getP (pathOf t)=some v
 | [],k,l,tm,_=>⟨tm,rfl,fun _ _=>rfl,(fun p h=>by cases h),fun t _=>.inl rfl⟩
 | p :: r,k,l,tm,hok=>by
  simp only [argsOk,Bool.and_eq_true,Bool.not_eq_true'] at hok
  obtain ⟨hp,hm,hr⟩:=hok
  obtain rfl:=pthEq_of hp
  cases l with
  | nil =>
   refine ⟨tm,rfl,fun _ _=>rfl,fun q hq=>?_,fun t _=>.inl rfl⟩
   obtain ⟨_,_,_,h3,_⟩:=setL_args (K:=K) r (k+1) [] tm hr
   rcases List.mem_cons.1 hq with rfl | hq
   ·exact ⟨hm,k,Nat.le_refl _,rfl⟩
   ·obtain ⟨h4,t,h5,h6⟩:=h3 q hq
    exact ⟨h4,t,by omega,h6⟩
  | cons v l =>
   obtain ⟨tf,h1,h2,h3,h4⟩:=setL_args (K:=K) r (k+1) l (PM.put (pathOf k) tm (some v)) hr
   refine ⟨tf, ?_,fun q hq=>?_,fun q hq=>?_,fun t ht=>?_⟩
   ·show forceV (fun v=>tsetP (pathOf k) tm (some v) fun tm=>setL r l tm K) v=K tf
    rw [forceV_eq,tsetP_eq,setP_put];exact h1
   ·rw [h2 q fun h=>hq (List.mem_cons_of_mem _ h),getP_put_other _ q tm _ fun e=>hq (by simp [e])]
   ·rcases List.mem_cons.1 hq with rfl | hq
    ·exact ⟨hm,k,Nat.le_refl _,rfl⟩
    ·obtain ⟨h4,t,h5,h6⟩:=h3 q hq
     exact ⟨h4,t,by omega,h6⟩
   ·by_cases hk:t=k
    ·subst hk
     have hno:pathOf t ∉ r:=fun h=>by
      obtain ⟨_,t',h5,h6⟩:=h3 _ h
      have:=pathOf_inj h6;omega
     exact .inr ⟨v,by simp,by rw [h2 _ hno,getP_put_same]⟩
    ·rcases h4 t (by omega) with h5 | ⟨u,h5,h6⟩
     ·exact .inl (by rw [h5,getP_put_other _ _ tm _ fun e=>hk (pathOf_inj e)])
     ·refine .inr ⟨u, ?_,h6⟩
      have:t - k=(t - (k+1))+1:=by omega
      rw [this];simpa using h5
theorem rel_entry {σ:Map}{args:List V}{args':Array Value}{tf:PM V} (h:All2 (RelV σ) args args'.toList) (m:Nat) (ht:∀ t,tf.getP (pathOf t)=none∨∃ v,args[t]?=some v∧tf.getP (pathOf t)=some v):RelF σ (rho tf) (args' ++ Array.replicate m undef):=by
 intro t
 show RelV σ (getD' (tf.getP (pathOf t))) _
 rcases ht t with h1 | ⟨v,h1,h2⟩
 ·rw [h1];exact .any _
 ·rw [h2]
  obtain ⟨u,hv,hr⟩:=h.get t h1
  have hlt:t<args'.size:=by have:=(List.getElem?_eq_some_iff.1 hv).1;simpa using this
  rw [Array.getD_eq_getD_getElem?,Array.getElem?_append_left hlt]
  have:args'[t]?=some u:=by simpa using hv
  rw [this]
  exact hr
def resVar (tmps:Array Value):ResultVar→Sem Value
 | .tmp t=>pure (tmps.getD t undef)
 | .cell a t=>do loadVar t (← asAddr (tmps.getD a undef))
theorem res_done {tm:PM V}{st:St}:∀ {l:List ResultVar}{rs:List RV}{K:List V→R}{x:X}{tf:PM V}{sf:St},compRV P l=some rs→resK tm st rs K=.done x tf sf →
  ∃ vs,K vs=.done x tf sf∧∀ (σ:Map) (tmps:Array Value) (w:World),RelF σ (rho tm) tmps→RelH σ st w→∃ vs',All2 (RelV σ) vs vs'∧(l.mapM (resVar tmps)).run P w=.ok vs' w
 | [],rs,K,x,tf,sf,hc,h=>by
  simp [compRV] at hc;subst hc
  exact ⟨[],h,fun σ tmps w hf hh=>⟨[],.nil,by simp⟩⟩
 | .tmp t :: l,rs,K,x,tf,sf,hc,h=>by
  simp only [compRV,Option.map_eq_some_iff] at hc
  obtain ⟨rs',hc,rfl⟩:=hc
  have h1:resK tm st rs' (fun l=>K (getD' (tm.getP (pathOf t)) :: l))=.done x tf sf:=h
  obtain ⟨vs,h2,h3⟩:=res_done hc h1
  refine ⟨_,h2,fun σ tmps w hf hh=>?_⟩
  obtain ⟨vs',h4,h5⟩:=h3 σ tmps w hf hh
  refine ⟨_,.cons (hf t) h4, ?_⟩
  simp only [List.mapM_cons,resVar,Sem.run_bind,Sem.run_pure,Result.andThen_ok,h5]
 | .cell ad t :: l,rs,K,x,tf,sf,hc,h=>by
  simp only [compRV] at hc
  split at hc
  ·rename_i n e1 e2
   simp only [Option.map_eq_some_iff] at hc
   obtain ⟨rs',hc,rfl⟩:=hc
   obtain ⟨id,off,hz,h1⟩:=asPtr_done (show asPtr 91 (getD' (tm.getP (pathOf ad))) (fun id off=>loadNK st n id off fun v=>resK tm st rs' fun l=>K (v :: l))=.done x tf sf from h)
   obtain ⟨b,hb,h2⟩:=opt_done (show Option.rec (motive:=fun _=>R) (.fail 8) (loadNB n off fun v=>resK tm st rs' fun l=>K (v :: l)) (st.heap.get id)=_ from h1)
   have h3:readK (.fail 6) b n off (fun l=>resK tm st rs' fun r=>K (.agg l :: r))=.done x tf sf:=h2
   rw [readK_eq] at h3
   cases hs:cellsAt b off n with
   | none=>rw [hs] at h3;cases h3
   | some cl =>
    rw [hs] at h3
    obtain ⟨vs,h4,h5⟩:=res_done hc h3
    refine ⟨_,h4,fun σ tmps w hf hh=>?_⟩
    obtain ⟨vs',h6,h7⟩:=h5 σ tmps w hf hh
    have r:RelV σ (getD' (tm.getP (pathOf ad))) (tmps.getD ad undef):=hf ad
    rw [hz] at r
    cases r with
    | sc r =>
     generalize hv:tmps.getD ad undef=v at r
     cases r with
     | ptr hid =>
      rename_i B p c
      obtain ⟨us,hl,hall,hcc⟩:=relB_row (hh.blk id b hb) hid hs
      refine ⟨.agg us.toArray :: vs',.cons (.agg (by simpa using hall)) h6, ?_⟩
      have hrun:=run_loadCells_list (P:=P) w ⟨B,p+off,none⟩ us hcc
      rw [hl] at hrun
      simp only [List.mapM_cons,resVar,hv,asAddr,Sem.run_bind,Sem.run_pure,Result.andThen_ok,loadVar,run_isAggT e1,run_sizeT e2,hrun,h7,if_true]
  ·rename_i n e1 e2
   simp only [Option.map_eq_some_iff] at hc
   obtain ⟨rs',hc,rfl⟩:=hc
   obtain ⟨id,off,hz,h1⟩:=asPtr_done (show asPtr 91 (getD' (tm.getP (pathOf ad))) (fun id off=>load1K st id off fun v=>resK tm st rs' fun l=>K (v :: l))=.done x tf sf from h)
   obtain ⟨b,hb,h2⟩:=opt_done (show Option.rec (motive:=fun _=>R) (.fail 8) (load1B off fun v=>resK tm st rs' fun l=>K (v :: l)) (st.heap.get id)=_ from h1)
   obtain ⟨s,hs,h3⟩:=opt_done (show Option.rec (motive:=fun _=>R) (.fail 7) (fun s=>resK tm st rs' fun r=>K (.sc s :: r)) (b.cell off)=_ from h2)
   obtain ⟨vs,h4,h5⟩:=res_done hc h3
   refine ⟨_,h4,fun σ tmps w hf hh=>?_⟩
   obtain ⟨vs',h6,h7⟩:=h5 σ tmps w hf hh
   have r:RelV σ (getD' (tm.getP (pathOf ad))) (tmps.getD ad undef):=hf ad
   rw [hz] at r
   cases r with
   | sc r =>
    generalize hv:tmps.getD ad undef=v at r
    cases r with
    | ptr hid =>
     rename_i B p c
     obtain ⟨us,hl,hall,hcc⟩:=relB_row (o:=off) (n:=1) (l:=[s]) (hh.blk id b hb) hid (by simp [cellsAt,hs])
     cases hall with
     | cons q1 q2 =>
      rename_i u m
      cases q2
      have hcell:=hcc 0 u rfl
      rw [add_addr] at hcell
      refine ⟨u :: vs',.cons (.sc q1) h6, ?_⟩
      simp at hcell
      simp [List.mapM_cons,resVar,hv,asAddr,loadVar,run_isAggT e1,hcell,h7]
  ·cases hc
theorem pack_rel {σ:Map}{v:V}{p:Bool×List S}{u:Value} (h:pack v=some p) (hr:RelV σ v u):RelT σ p u:=by
 cases v with
 | sc s=>cases h;cases hr with | sc hr=>exact .inr ⟨rfl,s,rfl,hr⟩
 | agg l=>cases h;cases hr with | agg hr=>exact .inl ⟨rfl,_,rfl,hr⟩
 | tup l=>cases h
 | any=>cases h
theorem packL_done {K:List (Bool×List S)→R}{x:X}{tf:PM V}{sf:St}:∀ {l:List V}{K:List (Bool×List S)→R},packL l K=.done x tf sf→∃ ps,K ps=.done x tf sf∧∀ (σ:Map) (us:List Value),All2 (RelV σ) l us→All2 (RelT σ) ps us
 | [],K,h=>⟨[],h,fun σ us hr=>by cases hr;exact .nil⟩
 | v :: l,K,h=>by
  have h':(match pack v with | some p=>packL l fun l=>K (p :: l) | none=>.fail 91)=R.done x tf sf:=h
  cases hp:pack v with
  | none=>rw [hp] at h';cases h'
  | some p =>
   rw [hp] at h'
   obtain ⟨ps,h1,h2⟩:=packL_done (K:=fun l=>K (p :: l)) h'
   refine ⟨_,h1,fun σ us hr=>?_⟩
   cases hr with
   | cons a b=>exact .cons (pack_rel hp a) (h2 σ _ b)
theorem fin_done {K:V→St→R}{st:St}{l:List V}{x:X}{tf:PM V}{sf:St} (h:fin1 K st l=.done x tf sf) :
  ∃ v,K v st=.done x tf sf∧∀ (σ:Map) (us:Array Value),All2 (RelV σ) l us.toList→RelV σ v (if h:us.size=1 then us[0] else .tuple us):=by
 have other:l.length≠1→packL l (fun l=>K (.tup l) st)=.done x tf sf→∃ v,K v st=.done x tf sf∧∀ (σ:Map) (us:Array Value),All2 (RelV σ) l us.toList→RelV σ v (if h:us.size=1 then us[0] else .tuple us):=fun hl hk=>by
  obtain ⟨ps,h1,h2⟩:=packL_done (K:=fun l=>K (.tup l) st) (x:=x) (tf:=tf) (sf:=sf) hk
  refine ⟨_,h1,fun σ us hr=>?_⟩
  have:us.size≠1:=by have:=hr.length;simp at this;omega
  rw [dif_neg this]
  exact .tup (h2 σ _ hr)
 match l,h with
 | [],h=>exact other (by simp) h
 | [v],h =>
  refine ⟨v,h,fun σ us hr=>?_⟩
  have hl:us.size=1:=by have:=hr.length;simpa using this.symm
  rw [dif_pos hl]
  have:=hr.get 0 (a:=v) rfl
  obtain ⟨u,hu,hr'⟩:=this
  have hu':us[0]?=some u:=by simpa using hu
  have:us[0]=u:=(Array.getElem?_eq_some_iff.1 hu').2
  rw [this];exact hr'
 | v :: v' :: l,h=>exact other (by simp) h
theorem ret_done {rs:List RV}{K:V→St→R}{r:R}{x:X}{tf:PM V}{sf:St} (h:retK rs K r=.done x tf sf) :
  ∃ x1 tm1 st1,r=.done x1 tm1 st1∧(x1=.normal∨x1=.ret)∧resK tm1 st1 rs (fin1 K st1)=.done x tf sf:=by
 cases r with
 | fail w=>cases h
 | done x1 tm1 st1 =>
  cases x1 with
  | normal=>exact ⟨_,_,_,rfl,.inl rfl,h⟩
  | exit i=>cases h
  | ret=>exact ⟨_,_,_,rfl,.inr rfl,h⟩
noncomputable def setLf:List Pth→List V→PM V→PM V
 | [],_,tm=>tm
 | _ :: _,[],tm=>tm
 | p :: r,v :: l,tm=>setLf r l (PM.put p tm (some v))
theorem setL_eq {K:PM V→R}:∀ (ps:List Pth) (l:List V) (tm:PM V),setL ps l tm K=K (setLf ps l tm)
 | [],l,tm=>rfl
 | p :: r,[],tm=>rfl
 | p :: r,v :: l,tm=>by
  show forceV (fun v=>tsetP p tm (some v) fun tm=>setL r l tm K) v=_
  rw [forceV_eq,tsetP_eq,setP_put,setL_eq r l];rfl
theorem setLf_inv {m:PM Unit}:∀ (ps:List Pth) (l:List V) (tm:PM V),Inv m tm→outsOk m ps=true→Inv m (setLf ps l tm)
 | [],l,tm,h,_=>h
 | p :: r,[],tm,h,_=>h
 | p :: r,v :: l,tm,h,ho=>by
  have ho':=List.all_eq_true.1 ho
  refine setLf_inv r l _ (fun q hq=>?_) (List.all_eq_true.2 fun q hq=>ho' q (List.mem_cons_of_mem _ hq))
  rw [getP_put_other p q tm _ fun e=>?_]
  ·exact h q hq
  ·have:=ho' p List.mem_cons_self
   rw [← e,hq] at this;cases this
theorem foldl_size:∀ (l:List (Tmp×Value)) (tmps:Array Value),(l.foldl (fun t (p:Tmp×Value)=>t.setIfInBounds p.1 p.2) tmps).size=tmps.size
 | [],tmps=>rfl
 | p :: l,tmps=>by simp only [List.foldl_cons];rw [foldl_size l];simp
theorem relF_args {σ:Map}:∀ (ps:List Tmp) (l:List V) (vs:List Value) (tm:PM V) (tmps:Array Value),All2 (RelV σ) l vs→RelF σ (rho tm) tmps→(∀ t,t∈ps→t<tmps.size) →
  RelF σ (rho (setLf (ps.map pathOf) l tm)) ((ps.zip vs).foldl (fun t (p:Tmp×Value)=>t.setIfInBounds p.1 p.2) tmps)
 | [],l,vs,tm,tmps,_,h,_=>by simpa [setLf] using h
 | t :: ps,[],vs,tm,tmps,hl,h,_=>by cases hl;simpa [setLf] using h
 | t :: ps,v :: l,vs,tm,tmps,hl,h,hb=>by
  cases hl with
  | cons hv hl =>
   rename_i u us
   simp only [List.map_cons,setLf,List.zip_cons_cons,List.foldl_cons]
   refine relF_args ps l us _ _ hl (fun q=>?_) (fun q hq=>by simpa using hb q (List.mem_cons_of_mem _ hq))
   show RelV σ (getD' ((PM.put (pathOf t) tm (some v)).getP (pathOf q))) _
   by_cases hq:q=t
   ·subst hq
    rw [getP_put_same]
    have:=hb q List.mem_cons_self
    rw [Array.getD_eq_getD_getElem?,Array.getElem?_setIfInBounds_self_of_lt this]
    exact hv
   ·rw [getP_put_other _ _ tm _ fun e=>hq (pathOf_inj e),Array.getD_eq_getD_getElem?,Array.getElem?_setIfInBounds_ne (fun e=>hq e.symm),← Array.getD_eq_getD_getElem?]
    exact h q
theorem thenK_done {K:PM V→St→R}{r:R}{x:X}{tf:PM V}{sf:St} (h:thenK K r=.done x tf sf):∃ tm st,r=.done .normal tm st∧K tm st=.done x tf sf:=by
 cases r with
 | fail w=>cases h
 | done x1 tm1 st1=>cases x1 with
  | normal=>exact ⟨_,_,rfl,h⟩
  | exit i=>cases h
  | ret=>cases h
def endS:X→Nat
 | .normal=>0
 | _=>2
def endP:X→Option X
 | .normal=>none
 | x=>some x
def endV:X→Bool
 | .normal=>true
 | _=>false
theorem endR_done {id:Nat}{K:V→St→R}{r:R}{x:X}{tf:PM V}{sf:St} (h:endR id K r=.done x tf sf):∃ x1 tm st,r=.done x1 tm st∧endK id (endS x1) (endP x1) st (fun st=>K (.sc (.bool (endV x1))) st)=.done x tf sf:=by
 cases r with
 | fail w=>cases h
 | done x1 tm1 st1=>cases x1 with
  | normal=>exact ⟨_,_,_,rfl,h⟩
  | exit i=>exact ⟨_,_,_,rfl,h⟩
  | ret=>exact ⟨_,_,_,rfl,h⟩
theorem ext_loop {F:Nat→Option HF}{σ:Map}{st:St}{w:World}{id B o c:Nat}{b:Blk}{tm:PM V}{fn idx s:Nat}{p:Option X} (hr:RelH σ st w) (hb:st.heap.get id=some b) (ho:b.own=true) (hk:b.k=.loop tm fn idx s p) (hid:σ id=some (B,o,c)) :
  ∃ L,w.heap[B]?=some (.loop L)∧stateN L.state=s∧L.pending=p.map codeX∧LoopP.rel σ tm fn idx L∧∀ (s':LoopState) (p':Option X) (q:Option Code),q=p'.map codeX →
   Ext σ σ st (putBlk st id (some ⟨b.own,b.n,b.m,b.z,.loop tm fn idx (stateN s') p'⟩)) w (w.putObj B (.loop { L with state:=s',pending:=q })) (min st.low id):=by
 obtain ⟨B',o',c',ob,q1,q2,q3⟩:=hr.blk _ _ hb
 rw [hid] at q1;cases q1
 cases q3 with
 | cells k1=>rw [hk] at k1;cases k1
 | map k1=>rw [hk] at k1;cases k1
 | loop k1 k2 k3 k4 k5 k6 k7 =>
  rw [hk] at k1;cases k1
  subst k3 k4
  refine ⟨_,q2,k5,k6,k7,fun s' p' q hq=>?_⟩
  have hlt:B<w.heap.size:=(Array.getElem?_eq_some_iff.1 q2).1
  exact ext_put hr hb ho ho hid ⟨B,0,0,_,hid,World.putObj_heap_same hlt,.loop rfl k2 rfl rfl rfl hq (LoopP.still s' q k7)⟩ (fun B' hB'=>World.putObj_heap_other hB') World.putObj_size rfl rfl rfl
theorem stateN_ready {s:LoopState} (h:stateN s=0):s=.ready:=by cases s <;> first | rfl | cases h
theorem round_ok {F:Nat→Option HF} (hLP:IsLP P g F) {k:Nat}{rec:HC→PM V→St→R} (hF:∀ f cf,F f=some cf→okF P g f cf) (IH:CodeOk P g F k rec) (IHg:CodeGr P g rec) {id:Nat}{args:List V}{st:St}{K:V→St→R}{x:X}{tf:PM V}{sf:St}
  (h:roundK F rec id args st K=.done x tf sf):∃ v st',K v st'=.done x tf sf∧Grow st st' ∧
   ∀ (σ:Map) (args':Array Value) (w:World) (lim:Nat),All2 (RelV σ) args args'.toList→Globals σ g→RelH σ st w→Free σ st.next lim→st'.next≤lim →
    ∀ B o c,σ id=some (B,o,c)→∀ next:Value→World→Prop,(∀ σ' v' w',Ext σ σ' st st' w w' st'.low→RelV σ' v v'→next v' w')→Gives P ((Instr.yield B args').run P w) next:=by
 obtain ⟨b,hb,h1⟩:=opt_done (show Option.rec (motive:=fun _=>R) (.fail 77) (roundB F rec id args st K) (st.heap.get id)=.done x tf sf from h)
 unfold roundB at h1
 split at h1
 rotate_left
 ·cases h1
 rename_i tm fn idx s0 p0 hk
 obtain ⟨hf,hcf,h2⟩:=opt_done h1
 obtain ⟨⟨ps,ha,hb2⟩,hl,h3⟩:=opt_done h2
 unfold roundL at h3
 obtain ⟨hlen,h4⟩:=ite_done h3
 rw [setL_eq] at h4
 obtain ⟨tm2,st2,hra,h5⟩:=thenK_done h4
 obtain ⟨b2,tm',fn',idx',s2,p2,hb2g,ho2,hk2,h6⟩:=updL_done (show updL st2 id (fun tm fn idx s p k=>iteB (Nat.beq s 0) (k (.loop tm fn idx 1 p)) (.fail 72)) (fun _ st=>endR id K (rec hb2 tm2 st))=.done x tf sf from h5)
 obtain ⟨hs2,h7⟩:=ite_done h6
 have hs2:s2=0:=beq_of hs2
 subst hs2
 obtain ⟨x3,tm3,st4,hrb,h8⟩:=endR_done h7
 obtain ⟨b4,tm4,fn4,idx4,s4,p4,hb4,ho4,hk4,h9⟩:=updL_done (show updL st4 id (fun tm fn idx _ _ k=>k (.loop tm fn idx (endS x3) (endP x3))) (fun _ st=>K (.sc (.bool (endV x3))) st)=.done x tf sf from h8)
 have hokF:=hF fn hf hcf
 have hcomp:∃ n code,Er (marks hf.locs) hf.body (comp P g n code):=by
  obtain ⟨cf,h0,h00,_⟩:=hokF.1
  unfold compF at h0
  split at h0
  ·split at h0
   ·cases h0
   ·split at h0
    ·cases h0
     exact ⟨_,_,h00⟩
    ·cases h0
  ·cases h0
 obtain ⟨n,code,hcode⟩:=hcomp
 obtain ⟨ca,cb,ea,eb⟩:=loopAt_comp code hcode hl
 have gA:=IHg n ca _ ha ea _ _ _ _ _ hra
 have gP:Grow st2 (putBlk st2 id (some ⟨b2.own,b2.n,b2.m,b2.z,.loop tm' fn' idx' 1 p2⟩)):=grow_put hb2g rfl
 have gB:=IHg n cb _ hb2 eb _ _ _ _ _ hrb
 have gE:Grow st4 (putBlk st4 id (some ⟨b4.own,b4.n,b4.m,b4.z,.loop tm4 fn4 idx4 (endS x3) (endP x3)⟩)):=grow_put hb4 rfl
 refine ⟨_,_,h9,((gA.trans gP).trans gB).trans gE,fun σ args' w lim hargs hg hr hfree hlim B o c hid next hn=>?_⟩
 obtain ⟨B',o',c',ob,q1,q2,q3⟩:=hr.blk _ _ hb
 rw [hid] at q1;cases q1
 cases q3 with
 | cells k1=>rw [hk] at k1;cases k1
 | map k1=>rw [hk] at k1;cases k1
 | loop k1 k2 k3 k4 k5 k6 k7 =>
  rename_i tm0 fn0 idx0 s00 p00 L
  rw [hk] at k1;cases k1
  obtain ⟨hfr,hf',ps',a',bd',n',m,hcf',hl',ea',eb',oka,okb,noa,nob,hInv,hn',hps,hpt,oko⟩:=(hLP _ _ _ _ _).1 k7
  rw [hcf] at hcf';cases hcf'
  rw [hl] at hl';cases hl'
  have hsz:args'.size=L.params.size:=by
   have e1:=hargs.length
   have e2:=beq_of hlen
   rw [lenL_eq,lenL_eq,hps] at e2
   simp at e1 e2
   omega
  rw [run_yield q2 hsz]
  show RoundIn Fence.wide 0 P B L.fn _ L.assign L.body w _
  have hfold:(L.params.zip args').foldl (fun tmps (x:Tmp×Value)=>tmps.setIfInBounds x.1 x.2) L.tmps=(L.params.toList.zip args'.toList).foldl (fun t (p:Tmp×Value)=>t.setIfInBounds p.1 p.2) L.tmps:=by
   rw [← Array.foldl_toList,Array.toList_zip]
  refine roundIn_of_wpIn trivial ?_
  have hInv1:Inv m (setLf ps args tm):=setLf_inv ps args tm hInv oko
  obtain ⟨hInv2,_,hdA⟩:=IH n' L.assign fn hf hcf m ha ea' oka (rngsAt_no noa) _ st .normal tm2 st2 hInv1 hra
  obtain ⟨hInv3,_,hdB⟩:=IH n' L.body fn hf hcf m hb2 eb' okb (rngsAt_no nob) _ _ x3 tm3 st4 hInv2 hrb
  have hF1:RelF σ (rho (setLf ps args tm)) ((L.params.toList.zip args'.toList).foldl (fun t (p:Tmp×Value)=>t.setIfInBounds p.1 p.2) L.tmps):=by
   rw [hps]
   exact relF_args L.params.toList args args'.toList tm L.tmps hargs hfr fun t ht=>Nat.lt_of_lt_of_le (hpt t ht) hn'
  have hst4:st4.next≤lim:=Nat.le_trans gE.next hlim
  have hst3:(putBlk st2 id (some ⟨b2.own,b2.n,b2.m,b2.z,.loop tm' fn' idx' 1 p2⟩)).next≤lim:=Nat.le_trans gB.next hst4
  have hst2:st2.next≤lim:=Nat.le_trans gP.next hst3
  refine wpL_wp (ro:=some B) (k:=k) (hdA σ ⟨_,[]⟩ w lim ?_ hg hr hfree hst2 ?_ (fun a' w'=>∃ σ',Ext σ σ' st st2 w w' st2.low∧RelF σ' (rho tm2) a'.tmps∧n'≤a'.tmps.size) ?_ (some B) (.inr noa) _ ?_)
  ·simp only;rw [hfold];exact hF1
  ·simp only;rw [hfold,foldl_size];exact hn'
  ·intro σ' a' w' e1 e2 e3 _
   refine ⟨σ',e1,e2, ?_⟩
   rw [e3];simp only;rw [hfold,foldl_size];exact hn'
  ·intro a1 w1 ⟨σ1,E1,hf1,hsz1⟩
   obtain ⟨L1,r1,r2,r3,r4,r5⟩:=ext_loop (F:=F) E1.rel hb2g ho2 hk2 (E1.le _ _ hid)
   refine ⟨_,run_beginRound r1 (stateN_ready r2), ?_⟩
   have E2:=r5 .busy p2 L1.pending r3
   refine wpL_wp (ro:=some B) (k:=k) (hdB σ1 a1 _ lim hf1 (hg.mono E1.le) E2.rel (E2.free (E1.free hfree)) hst4 hsz1 (fun a' w'=>∃ σ',Ext σ1 σ' (putBlk st2 id (some ⟨b2.own,b2.n,b2.m,b2.z,.loop tm' fn' idx' 1 p2⟩)) st4 (w1.putObj B (.loop { L1 with state:=.busy })) w' st4.low) ?_ (some B) (.inr nob) _ ?_)
   ·intro σ' a' w' e1 _ _ _;exact ⟨σ',e1⟩
   ·intro a3 w3 ⟨σ3,E3⟩
    obtain ⟨L3,t1,t2,t3,t4,t5⟩:=ext_loop (F:=F) E3.rel hb4 ho4 hk4 (E3.le _ _ (E1.le _ _ hid))
    have tot:∀ (s':LoopState) (q:Option Code),stateN s'=endS x3→q=(endP x3).map codeX→Ext σ σ3 st (putBlk st4 id (some ⟨b4.own,b4.n,b4.m,b4.z,.loop tm4 fn4 idx4 (endS x3) (endP x3)⟩)) w (w3.putObj B (.loop { L3 with state:=s',pending:=q })) (putBlk st4 id (some ⟨b4.own,b4.n,b4.m,b4.z,.loop tm4 fn4 idx4 (endS x3) (endP x3)⟩)).low:=fun s' q hs hq=>by
     have E4:=t5 s' (endP x3) q hq
     rw [hs] at E4
     have a1:=(E1.weaken gP.low).trans E2
     have a2:=(a1.weaken gB.low).trans E3
     exact (a2.weaken gE.low).trans E4
    cases x3 with
    | normal=>exact ⟨_,_,run_endRound none t1,hn σ3 _ _ (tot .ready none rfl rfl) (.sc (.bool true))⟩
    | exit i=>exact ⟨_,_,run_endRound (some (.exit i)) t1,hn σ3 _ _ (tot .done (some (.exit i)) rfl rfl) (.sc (.bool false))⟩
    | ret=>exact ⟨_,_,run_endRound (some .ret) t1,hn σ3 _ _ (tot .done (some .ret) rfl rfl) (.sc (.bool false))⟩
theorem Ext.close {σ σ':Map}{st st':St}{w w':World}{lw D:Nat} (E:Ext σ σ' st st' w w' lw) (hD:w.heap.size≤D) (hG:Good σ' st' w' D):Ext σ σ' st st' w (w'.putObj D (.deferred none)) lw:=by
 have hlt:D<w'.heap.size:=(Array.getElem?_eq_some_iff.1 hG.1).1
 have hoth:∀ B,B≠D→(w'.putObj D (.deferred none)).heap[B]?=w'.heap[B]?:=fun B hB=>World.putObj_heap_other hB
 have hfro:∀ a,(w'.putObj D (.deferred none)).frozen? a=w'.frozen? a:=fro_of fun B=>by
  by_cases hB:B=D
  ·subst hB
   refine .inr ⟨fun a ha=>?_,fun a ha=>?_⟩
   ·subst ha;simp [World.frozen?,World.putObj_heap_same hlt]
   ·subst ha;simp [World.frozen?,hG.1]
  ·exact .inl (hoth B hB)
 refine ⟨E.le,E.only,E.next,⟨fun id b hb=>?_,E.rel.inj,E.rel.lt⟩,by rw [World.putObj_size];exact E.size,E.os,E.tape,E.output,fun a=>(hfro a).trans (E.fro a),fun B hB hc=>?_,E.old,E.gone,E.keepOwn,E.fresh,E.newOwn⟩
 ·have hB:=E.rel.blk id b hb
  obtain ⟨x,hx⟩:=hB.map
  exact hB.world hx (hoth _ (hG.2 id b x hb hx))
 ·rw [hoth B (by omega)];exact E.frame B hB hc
theorem Good.close {σ:Map}{st:St}{w:World}{D D':Nat} (h:Good σ st w D') (hne:D'≠D):Good σ st (w.putObj D (.deferred none)) D':=⟨by rw [World.putObj_heap_other hne];exact h.1,h.2⟩
theorem leaves_marks {σ σ':Map}{st st1:St}{w0:World}{lw:Nat}{fn:Func}{tmps:Array Value}{Rr:Ending→World→Prop} (fin:∀ w',Ext σ σ' st st1 w0 w' lw→LeavesInM Fence.wide 0 P fn tmps Rr [] .returning w') :
  ∀ (l:List Nat) (w':World),Ext σ σ' st st1 w0 w' lw→l.Nodup→(∀ D,D∈l→w0.heap.size≤D∧Good σ' st1 w' D)→LeavesInM Fence.wide 0 P fn tmps Rr (l.map markD ++ []) .returning w'
 | [],w',E,_,_=>fin w' E
 | D :: l,w',E,hn,hg=>by
  obtain ⟨g1,g2⟩:=hg D List.mem_cons_self
  obtain ⟨n1,n2⟩:=List.nodup_cons.1 hn
  exact ⟨by simp,.inl ⟨D,_,rfl,run_takeDeferred g2.1,leaves_marks fin l _ (E.close g1 g2) n2 fun D' hD'=>⟨(hg D' (List.mem_cons_of_mem _ hD')).1,(hg D' (List.mem_cons_of_mem _ hD')).2.close fun e=>n1 (e▸hD')⟩⟩⟩
theorem call_ok {F:Nat→Option HF} (hLP:IsLP P g F) {k:Nat}{rec:HC→PM V→St→R} (hF:∀ f cf,F f=some cf→okF P g f cf) (IH:CodeOk P g F k rec) (IHg:CodeGr P g rec):CallOk P g (callK F rec):=by
 intro f args st K x tf sf h
 have hsplit:iteB (Nat.blt f yBase) (Option.rec (motive:=fun _=>R) (.fail 94) (callF rec args st K) (F f)) (roundK F rec (Nat.sub f yBase) args st K)=.done x tf sf:=h
 cases hbl:Nat.blt f yBase with
 | false =>
  rw [hbl,iteB_false] at hsplit
  obtain ⟨v,st',h1,h2,h3⟩:=round_ok hLP hF IH IHg hsplit
  refine ⟨v,st',h1,h2,.inr ⟨?_,h3⟩⟩
  refine Classical.byContradiction fun hc=>?_
  have:Nat.blt f yBase=true:=Nat.ble_eq_true_of_le (by omega)
  rw [hbl] at this;cases this
 | true =>
 rw [hbl,iteB_true] at hsplit
 obtain ⟨hf,hcf,h1⟩:=opt_done hsplit
 obtain ⟨⟨cf,hcomp,hbody,hres⟩,hok,hrn⟩:=hF f hf hcf
 unfold okHF at hok
 simp only [Bool.and_eq_true] at hok
 unfold compF at hcomp
 split at hcomp
 ·rename_i fn hfn
  split at hcomp
  ·cases hcomp
  ·rename_i hname
   split at hcomp
   ·rename_i b rs hb hrs
    cases hcomp
    subst hres
    have h1':setL hf.args args .leaf (fun tm=>retK hf.results K (rec hf.body tm st))=.done x tf sf:=h1
    obtain ⟨tm0,q1,q2,q3,q4⟩:=setL_args (K:=fun tm=>retK hf.results K (rec hf.body tm st)) hf.args 0 args .leaf hok.2
    rw [q1] at h1'
    have h2:=h1'
    have hI:Inv (marks hf.locs) tm0:=fun p hp=>by
     by_cases hm:p∈hf.args
     ·rw [(q3 p hm).1] at hp;cases hp
     ·rw [q2 p hm];exact getP_leaf p
    have hent:∀ t,tm0.getP (pathOf t)=none∨∃ v,args[t]?=some v∧tm0.getP (pathOf t)=some v:=fun t=>by
     rcases q4 t (Nat.zero_le _) with h | h
     ·exact .inl (h.trans (getP_leaf _))
     ·exact .inr h
    obtain ⟨x1,tm1,st1,h3,hx1,h4⟩:=ret_done h2
    obtain ⟨vs,h5,h6⟩:=res_done hrs h4
    obtain ⟨v,h7,h8⟩:=fin_done h5
    obtain ⟨_,hgrow,hdoes⟩:=IH fn.ntmps b f hf hcf (marks hf.locs) hf.body hbody hok.1 hrn _ st x1 tm1 st1 hI h3
    refine ⟨v,st1,h7,hgrow,.inl ⟨blt_of hbl,⟨fn,hfn,by simpa using hname,by rw [hb];rfl⟩,fun σ args' w lim ha hg hh hfree hlim=>?_⟩⟩
    refine (callsIn_wide (n:=0)).1 (callsIn_of_wp_marks hfn hb trivial ?_)
    refine wpL_wp (ro:=none) (k:=k) (hdoes σ { tmps:=args' ++ Array.replicate (fn.ntmps - args'.size) undef,defers:=[] } w lim (rel_entry ha _ hent) hg hh hfree hlim (by simp;omega)
     (fun a' w'=>LeavesInM Fence.wide 0 P fn a'.tmps (fun e w'=>∃ v' σ',e=.returned v'∧Ext σ σ' st st1 w w' st1.low∧RelV σ' v v') a'.defers .returning w') ?_ none (.inl rfl) _ ?_)
    ·intro σ' a' w' E hfr _ ⟨l,hl,hnd,hgood⟩
     show LeavesInM Fence.wide 0 P fn a'.tmps _ a'.defers .returning w'
     rw [hl]
     refine leaves_marks (fun w2 E2=>?_) l w' E hnd hgood
     obtain ⟨us,hu1,hu2⟩:=h6 σ' a'.tmps w2 hfr E2.rel
     have hrun:(fn.results.mapM (resVar a'.tmps)).run P w2=.ok us.toArray w2:=by
      rw [← Array.toArray_toList (xs:=fn.results),List.mapM_toArray]
      simp only [Sem.run_map,hu2]
      rfl
     have hres:(results fn a'.tmps).run P w2=.ok (if h:us.toArray.size=1 then us.toArray[0] else .tuple us.toArray) w2:=by
      have:results fn a'.tmps=(do
       let vs ← fn.results.mapM (resVar a'.tmps)
       pure (if h:vs.size=1 then vs[0] else .tuple vs)):=by
       unfold results
       congr 2
      rw [this]
      simp only [Sem.run_bind,hrun,Result.andThen_ok,Sem.run_pure]
     exact ⟨_,hres,_,σ',rfl,E2,h8 σ' us.toArray (by simpa using hu1)⟩
    ·intro a' w' hq
     rcases hx1 with rfl | rfl
     ·exact hq
     ·exact hq
   ·cases hcomp
 ·cases hcomp
theorem run_gr {F:Nat→Option HF} (hLP:IsLP P g F) (hm:P.follows .mixedOrders=true) (hF:∀ f cf,F f=some cf→okF P g f cf):∀ k,CodeOk P g F k (run F k)∧CodeGr P g (run F k)
 | 0=>⟨fun n code i hf hFi L hc e ok hrn tm st x tf sf hI h=>by (cases h),fun n code L hc e tm st x tf sf h=>by (cases h)⟩
 | k+1=>by
  obtain ⟨h1,h2⟩:=run_gr hLP hm hF k
  have hcall:=call_ok hLP hF h1 h2
  exact ⟨fun n code=>code_step hLP hm hcall h1 code,fun n code=>code_grow hm hcall h2 code⟩
theorem callK_ok {F:Nat→Option HF} (hLP:IsLP P g F) (hm:P.follows .mixedOrders=true) (hF:∀ f cf,F f=some cf→okF P g f cf) (k:Nat):CallOk P g (callK F (run F k)):=call_ok hLP hF (run_gr hLP hm hF k).1 (run_gr hLP hm hF k).2
end
end
section
set_option linter.unusedSectionVars false
variable [LoopP]
abbrev Rd:=Option (List S×List (Nat×List S)×Nat)
def rdList (P:Program) (rd:TypeId→DataW Unit→Nat→Rd):List (TypeId×Nat)→List (DataW Unit)→Nat→Nat→Rd
 | [],[],_,nx=>some ([],[],nx)
 | (t,o) :: ts,d :: ds,acc,nx =>
  if o=acc then
   match rd t d nx with
   | some (l,bl,n1)=>if l.length=P.cellsOf t then
     match rdList P rd ts ds (acc+l.length) n1 with
     | some (l2,bl2,n2)=>some (l ++ l2,bl ++ bl2,n2)
     | none=>none
    else none
   | none=>none
  else none
 | _,_,_,_=>none
def evRd (P:Program):Nat→TypeId→DataW Unit→Nat→Rd
 | 0,_,_,_=>none
 | f+1,t,d,nx=>match P.underlying t,d with
  | some .bool,.lit (.bool b)=>some ([.bool b],[],nx)
  | some (.int _),.lit (.int k n)=>some ([.int k n],[],nx)
  | some .string,.lit (.string s)=>some ([.lit (.string ⟨s.toArray⟩)],[],nx)
  | some (.slice _),.nil=>some ([.nils],[],nx)
  | some (.pointer _),.nil=>some ([.nilp],[],nx)
  | some (.slice e),.slice de dr =>
   if P.cellsOf e=0∨de.length+dr.length=0 then none else
   match rdList P (evRd P f) ((List.range (de.length+dr.length)).map fun i=>(e,i * P.cellsOf e)) (de ++ dr) 0 (nx+1) with
   | some (l,bl,n1)=>if l.length=(de.length+dr.length) * P.cellsOf e then some ([.slice nx 0 de.length (some (de.length+dr.length)) (P.cellsOf e)],(nx,l) :: bl,n1) else none
   | none=>none
  | some (.struct fs),.agg ds=>match rdList P (evRd P f) (fs.toList.map fun f=>(f.type,f.offset)) ds 0 nx with
   | some (l,bl,n1)=>if l.length=P.cellsOf t then some (l,bl,n1) else none
   | none=>none
  | some (.array n e),.agg ds=>match rdList P (evRd P f) ((List.range n).map fun i=>(e,i * P.cellsOf e)) ds 0 nx with
   | some (l,bl,n1)=>if l.length=P.cellsOf t then some (l,bl,n1) else none
   | none=>none
  | _,_=>none
def Blkd (τ:Map) (w:World) (p:Nat×List S):Prop :=
 ∃ B o c cells e fr,τ p.1=some (B,o,c)∧w.heap[B]?=some (.cells cells e fr)∧cells.size=c∧o+p.2.length≤c∧∀ (i:Nat) s,p.2[i]?=some s→∃ v,cells[o+i]?=some v∧RelS τ s v
theorem Blkd.mono {σ τ:Map} (h:σ.le τ) {w:World}{p:Nat×List S} (hb:Blkd σ w p):Blkd τ w p:=by
 obtain ⟨B,o,c,cells,e,fr,h1,h2,h3,h4,h5⟩:=hb
 exact ⟨B,o,c,cells,e,fr,h _ _ h1,h2,h3,h4,fun i s hs=>let ⟨v,a,r⟩:=h5 i s hs;⟨v,a,r.mono h⟩⟩
def PlOk (w:World) (ps:List MemPlace):Prop:=∀ b off,MemPlace.cell b off∈ps→∃ c t,w.heap[b]?=some (.cells c t (0,0))
def Rdd (w:World) (σ:Map) (nx nx':Nat) (l:List S) (bl:List (Nat×List S)) (cs:List Value):Prop :=
 nx≤nx'∧∃ τ:Map,σ.le τ∧(∀ id,¬ (nx≤id∧id<nx')→τ id=σ id)∧All2 (RelS τ) l cs∧∀ p∈bl,Blkd τ w p
section
variable {P:Program}{w:World}
abbrev tr (P:Program) (w:World):=DataW.trod (H:=Unit) (fun _=>()) P w 0 (fun _=>true) false
def RdOk (P:Program) (w:World) (fuel:Nat) (rd:TypeId→DataW Unit→Nat→Rd):Prop :=
 ∀ t d nx l bl nx' cs ps,rd t d nx=some (l,bl,nx')→tr P w fuel t cs=some (d,ps)→PlOk w ps→∀ σ:Map,(∀ id,nx≤id→σ id=none)→Rdd w σ nx nx' l bl cs
theorem rdList_ok {fuel:Nat}{rd:TypeId→DataW Unit→Nat→Rd} (hrd:RdOk P w fuel rd) {α:Type} (ty:α→TypeId) (off:α→Nat) (cs:List Value) :
  ∀ (as:List α) (ds:List (DataW Unit)) (acc nx:Nat) (l:List S) (bl:List (Nat×List S)) (nx':Nat) (xs:List (DataW Unit×List MemPlace)),
   rdList P rd (as.map fun a=>(ty a,off a)) ds acc nx=some (l,bl,nx')→xs.length=as.length→(∀ (i:Nat) a,as[i]?=some a→tr P w fuel (ty a) ((cs.drop (off a)).take (P.cellsOf (ty a)))=xs[i]?)→xs.map (·.1)=ds→(∀ x∈xs,PlOk w x.2) →
   ∀ σ:Map,(∀ id,nx≤id→σ id=none)→Rdd w σ nx nx' l bl ((cs.drop acc).take l.length)
 | [],ds,acc,nx,l,bl,nx',xs,h1,hlen,h2,h3,h4,σ,hσ=>by
  simp at hlen;subst hlen
  simp at h3;subst h3
  simp [rdList] at h1
  obtain ⟨rfl,rfl,rfl⟩:=h1
  exact ⟨Nat.le_refl _,σ,Map.le.refl σ,fun _ _=>rfl,by simpa using All2.nil,fun p hp=>by cases hp⟩
 | a :: as,ds,acc,nx,l,bl,nx',[],h1,hlen,h2,h3,h4,σ,hσ=>by simp at hlen
 | a :: as,ds,acc,nx,l,bl,nx',x :: xs',h1,hlen,h2,h3,h4,σ,hσ=>by
  have hx:=h2 0 a rfl
  simp only [List.getElem?_cons_zero] at hx
  simp only [List.map_cons] at h3
  subst h3
  simp only [List.map_cons,rdList] at h1
  split at h1
  ·rename_i ho
   split at h1
   ·rename_i l1 bl1 n1 hr1
    split at h1
    ·rename_i hl1
     split at h1
     ·rename_i l2 bl2 n2 hr2
      simp only [Option.some.injEq,Prod.mk.injEq] at h1
      obtain ⟨rfl,rfl,rfl⟩:=h1
      obtain ⟨d,p⟩:=x
      obtain ⟨hn1,τ,e1,e2,e3,e4⟩:=hrd (ty a) d nx l1 bl1 n1 _ p hr1 hx (h4 (d,p) (by simp)) σ hσ
      have hτ:∀ id,n1≤id→τ id=none:=fun id hid=>by rw [e2 id (by omega)];exact hσ id (by omega)
      obtain ⟨hn2,τ',f1,f2,f3,f4⟩:=rdList_ok hrd ty off cs as _ (acc+l1.length) n1 l2 bl2 n2 xs' hr2 (by simpa using hlen) (fun i a' ha=>by simpa using h2 (i+1) a' (by simpa using ha)) rfl (fun x hx=>h4 x (by simp [hx])) τ hτ
      refine ⟨by omega,τ',e1.trans f1,fun id hid=>by rw [f2 id (by omega),e2 id (by omega)], ?_,fun q hq=>?_⟩
      ·rw [List.length_append,List.take_add,List.drop_drop]
       refine All2.append ?_ f3
       rw [← ho,hl1]
       exact e3.imp fun _ _=>RelS.mono f1
      ·rcases List.mem_append.1 hq with hq | hq
       ·exact (e4 q hq).mono f1
       ·exact f4 q hq
     ·cases h1
    ·cases h1
   ·cases h1
  ·cases h1
theorem cells_at {a:Addr}{n:Nat}{pc:List Value}{c:Array Value}{t:TypeId} (hb:w.heap[a.block]?=some (.cells c t (0,0))) (hs:a.spot=none) (h:w.cells? 0 a n=some pc):pc=(c.toList.drop a.off).take n∧pc.length=n:=by
 simp only [World.cells?,Nat.zero_le,if_true] at h
 have hlen:pc.length=n:=by have:=Lib.mapM_length h;simpa using this
 have hget:∀ i,i<n→∃ v,pc[i]?=some v∧c[a.off+i]?=some v:=fun i hi=>by
  obtain ⟨v,h1,h2⟩:=Lib.mapM_at h i i (by simp [hi])
  refine ⟨v,h1, ?_⟩
  obtain ⟨B,o,sp⟩:=a
  simp only at hs;subst hs
  rw [add_addr] at h2
  simp only [World.cell?,hb] at h2
  simpa using h2
 refine ⟨List.ext_getElem? fun i=>?_,hlen⟩
 by_cases hi:i<n
 ·obtain ⟨v,h1,h2⟩:=hget i hi
  rw [h1,List.getElem?_take_of_lt hi,List.getElem?_drop,Array.getElem?_toList,h2]
 ·rw [List.getElem?_eq_none (by omega),List.getElem?_eq_none (by simp;omega)]
theorem evRd_ok:∀ (f fuel:Nat),RdOk P w fuel (evRd P f)
 | 0,fuel=>fun t d nx l bl nx' cs ps h=>by simp [evRd] at h
 | f+1,0=>fun t d nx l bl nx' cs ps h h2=>by simp [tr,DataW.trod] at h2
 | f+1,fuel+1=>by
  intro t d nx l bl nx' cs ps h h2 hps σ hσ
  have same:∀ {s:S}{v:Value},(∀ τ,RelS τ s v)→cs=[v]→l=[s]→bl=[]→nx'=nx→Rdd w σ nx nx' l bl cs:=fun hr e1 e2 e3 e4=>by
   subst e1 e2 e3 e4
   exact ⟨Nat.le_refl _,σ,Map.le.refl σ,fun _ _=>rfl,.cons (hr σ) .nil,fun p hp=>by cases hp⟩
  simp only [evRd] at h
  split at h
  ·rename_i b hu
   simp only [Option.some.injEq,Prod.mk.injEq] at h
   obtain ⟨rfl,rfl,rfl⟩:=h
   obtain ⟨z,hc,he⟩:=DataW.trod_bool hu h2
   cases he
   exact same (fun τ=>.bool _) hc rfl rfl rfl
  ·rename_i k0 k n hu
   simp only [Option.some.injEq,Prod.mk.injEq] at h
   obtain ⟨rfl,rfl,rfl⟩:=h
   obtain ⟨z,hc,he,_⟩:=DataW.trod_int hu h2
   cases he
   exact same (fun τ=>.int _ _) hc rfl rfl rfl
  ·rename_i s hu
   simp only [Option.some.injEq,Prod.mk.injEq] at h
   obtain ⟨rfl,rfl,rfl⟩:=h
   obtain ⟨z,hc,he,_⟩:=DataW.trod_string hu h2
   cases he
   exact same (fun τ=>by
    have:(⟨z.data.toList.toArray⟩:ByteArray)=z:=by cases z;simp
    rw [this];exact .lit _ rfl) hc rfl rfl rfl
  ·rename_i e hu
   simp only [Option.some.injEq,Prod.mk.injEq] at h
   obtain ⟨rfl,rfl,rfl⟩:=h
   rcases DataW.trod_slice hu h2 with ⟨hc,_⟩ | ⟨a,len,cap,elems,rest,m,_,_,hx,_⟩
   ·exact same (fun τ=>.nils) hc rfl rfl rfl
   ·cases hx
  ·rename_i e hu
   simp only [Option.some.injEq,Prod.mk.injEq] at h
   obtain ⟨rfl,rfl,rfl⟩:=h
   rcases DataW.trod_pointer hu h2 with ⟨hc,_⟩ | ⟨a,cs',y,m,_,_,hx,_⟩
   ·exact same (fun τ=>.nilp) hc rfl rfl rfl
   ·cases hx
  ·rename_i e de dr hu
   split at h
   ·cases h
   ·rename_i hne
    split at h
    ·rename_i l1 bl1 n1 hr
     split at h
     ·rename_i hl
      simp only [Option.some.injEq,Prod.mk.injEq] at h
      obtain ⟨rfl,rfl,rfl⟩:=h
      rcases DataW.trod_slice hu h2 with ⟨_,hx⟩ | ⟨a,len,cap,elems,rest,m,hm,hc,hx,_,hlc,_,hel,hat,hrest,_⟩
      ·cases hx
      ·obtain ⟨hrl,hrat⟩:=hrest rfl
       cases hm
       cases hx
       subst hc
       simp only [List.length_map] at hne hr hl ⊢
       have hz:P.cellsOf e≠0:=fun hh=>hne (.inl hh)
       have hcap:elems.length+rest.length=cap:=by omega
       have hpos:0<cap:=by omega
       obtain ⟨c,t',hblk⟩:∃ c t,w.heap[a.block]?=some (.cells c t (0,0)):=by
        refine hps a.block (a.off+0) ?_
        refine List.mem_append_left _ (List.mem_map.2 ⟨0,List.mem_range.2 ?_,rfl⟩)
        exact Nat.mul_pos (by omega) (Nat.pos_of_ne_zero hz)
       have hpiece:∀ i,i<cap→(w.cells? 0 (a.add (i * P.cellsOf e)) (P.cellsOf e)).bind (DataW.trod (H:=Unit) (fun _=>()) P w 0 (fun _=>true) false fuel e)=(elems ++ rest)[i]?:=fun i hi=>by
        by_cases hie:i<len
        ·rw [List.getElem?_append_left (by omega)];exact hat i hie
        ·rw [List.getElem?_append_right (by omega)]
         have:=hrat (i - len) (by omega)
         rw [show len+(i - len)=i by omega] at this
         rw [this,hel]
       have hspot:a.spot=none:=by
        have h0:=hpiece 0 hpos
        have:(elems ++ rest)[0]?≠none:=by rw [List.getElem?_eq_getElem (by simp;omega)];simp
        cases hcl:w.cells? 0 (a.add (0 * P.cellsOf e)) (P.cellsOf e) with
        | none=>rw [hcl] at h0;exact absurd h0.symm this
        | some pc =>
         have:(a.add (0 * P.cellsOf e))=a:=by simp [Addr.add]
         rw [this] at hcl
         simp only [World.cells?,Nat.zero_le,if_true] at hcl
         obtain ⟨v,_,hv⟩:=Lib.mapM_at hcl 0 0 (List.getElem?_range (by omega))
         have ha0:a.add 0=a:=by simp [Addr.add]
         rw [ha0] at hv
         simp only [World.cell?,hblk] at hv
         cases hs:a.spot with
         | none=>rfl
         | some q=>rw [hs] at hv;simp at hv
       have hadd:∀ i,a.add i=⟨a.block,a.off+i,none⟩:=fun i=>by
        obtain ⟨B,o,sp⟩:=a
        simp only at hspot;subst hspot
        exact add_addr B o i
       have hall:∀ (i:Nat) j,(List.range (elems.length+rest.length))[i]?=some j→tr P w fuel e (((c.toList.drop a.off).drop (j * P.cellsOf e)).take (P.cellsOf e))=(elems ++ rest)[i]?:=fun i j hij=>by
        have hi:i<elems.length+rest.length:=by have:=(List.getElem?_eq_some_iff.1 hij).1;simpa using this
        have:j=i:=by rw [List.getElem?_range hi] at hij;cases hij;rfl
        subst this
        have h0:=hpiece j (by omega)
        have hsome:(elems ++ rest)[j]?≠none:=by rw [List.getElem?_eq_getElem (by simp;omega)];simp
        cases hcl:w.cells? 0 (a.add (j * P.cellsOf e)) (P.cellsOf e) with
        | none=>rw [hcl] at h0;exact absurd h0.symm hsome
        | some pc =>
         rw [hcl] at h0
         obtain ⟨hpc,_⟩:=cells_at (a:=a.add (j * P.cellsOf e)) (c:=c) (t:=t') (by rw [hadd];exact hblk) (by rw [hadd]) hcl
         rw [List.drop_drop]
         have:(a.add (j * P.cellsOf e)).off=a.off+j * P.cellsOf e:=by rw [hadd]
         rw [this] at hpc
         rw [← hpc];exact h0
       have hσ':∀ id,nx+1≤id→(σ.put nx (a.block,a.off,c.size)) id=none:=fun id hid=>by
        rw [Map.put_other _ _ (by omega)];exact hσ id (by omega)
       obtain ⟨hn,τ,q1,q2,q3,q4⟩:=rdList_ok (evRd_ok f fuel) (fun _=>e) (fun i=>i * P.cellsOf e) (c.toList.drop a.off) (List.range (elems.length+rest.length)) _ 0 (nx+1) l1 bl1 n1 (elems ++ rest) hr (by simp) hall (by simp)
        (fun x hx b off hb=>hps b off (List.mem_append_right _ (List.mem_flatMap.2 ⟨x,hx,hb⟩))) _ hσ'
       have hτ:τ nx=some (a.block,a.off,c.size):=q1 _ _ (Map.put_same _ _ _)
       have hll:l1.length≤c.size - a.off:=by
        have:=q3.length
        simp at this
        omega
       have hbig:0<l1.length:=by rw [hl];exact Nat.mul_pos (by omega) (Nat.pos_of_ne_zero hz)
       refine ⟨by omega,τ,(Map.le_put (hσ nx (Nat.le_refl _))).trans q1,fun id hid=>?_,.cons ?_ .nil,fun q hq=>?_⟩
       ·rw [q2 id (by omega),Map.put_other _ _ (by omega)]
       ·have hval:(Value.slice (some a) len cap)=.slice (some ⟨a.block,a.off+0,none⟩) len cap:=by
         have:=hadd 0
         rw [← this];simp [Addr.add]
        rw [hval,hel]
        refine RelS.slice hτ (fun x hx=>by cases hx;omega) hlc ?_
        rw [hcap] at hl
        omega
       ·rcases List.mem_cons.1 hq with rfl | hq
        ·refine ⟨a.block,a.off,c.size,c,t',(0,0),hτ,hblk,rfl,by simp only;omega,fun i s hs=>?_⟩
         obtain ⟨v,hv,hr'⟩:=q3.get i hs
         refine ⟨v, ?_,hr'⟩
         simp only [List.drop_zero] at hv
         have hi:i<l1.length:=(List.getElem?_eq_some_iff.1 hs).1
         rw [List.getElem?_take_of_lt hi,List.getElem?_drop,Array.getElem?_toList] at hv
         exact hv
        ·exact q4 q hq
     ·cases h
    ·cases h
  ·rename_i fs ds hu
   split at h
   ·rename_i l1 bl1 n1 hr
    split at h
    ·rename_i hl
     simp only [Option.some.injEq,Prod.mk.injEq] at h
     obtain ⟨rfl,rfl,rfl⟩:=h
     obtain ⟨xs,m,hm,hx,hcl,hxl,hat⟩:=DataW.trod_struct hu h2
     cases hm
     cases hx
     have:=rdList_ok (evRd_ok f fuel) (fun f:Field=>f.type) (fun f=>f.offset) cs fs.toList _ 0 nx l1 bl1 n1 xs hr (by simpa using hxl) (fun i f hf=>hat i f (by simpa using hf)) rfl
      (fun x hx b off hb=>hps b off (List.mem_flatMap.2 ⟨x,hx,hb⟩)) σ hσ
     rw [List.drop_zero,hl,← hcl,List.take_length] at this
     exact this
    ·cases h
   ·cases h
  ·rename_i n e ds hu
   split at h
   ·rename_i l1 bl1 n1 hr
    split at h
    ·rename_i hl
     simp only [Option.some.injEq,Prod.mk.injEq] at h
     obtain ⟨rfl,rfl,rfl⟩:=h
     simp only [tr,DataW.trod,hu] at h2
     split at h2
     ·rename_i hcl
      obtain ⟨xs,hm,hx⟩:=Option.map_eq_some_iff.1 h2
      cases hx
      have hxl:=Lib.mapM_length hm
      have:=rdList_ok (evRd_ok f fuel) (fun _:Nat=>e) (fun i=>i * P.cellsOf e) cs (List.range n) _ 0 nx l1 bl1 n1 xs hr hxl (fun i j hij=>by
       obtain ⟨b,hb1,hb2⟩:=Lib.mapM_at hm i j hij
       rw [hb1];exact hb2) rfl (fun x hx b off hb=>hps b off (List.mem_flatMap.2 ⟨x,hx,hb⟩)) σ hσ
      rw [List.drop_zero,hl,← hcl,List.take_length] at this
      exact this
     ·cases h2
    ·cases h
   ·cases h
  ·cases h
end
end
section
set_option linter.unusedSectionVars false
variable [LoopP]
open Go.RowKit
noncomputable def heapOf:List (Nat×List S)→PM Blk
 | []=>.leaf
 | (id,c) :: r=>PM.set (id+1) (heapOf r) id (some ⟨false,c.length,PM.write c .leaf 0,[],.no⟩)
noncomputable def stOf (l:List (Nat×List S)) (nx:Nat):St:=⟨heapOf l,nx,nx⟩
theorem heapOf_get:∀ {l:List (Nat×List S)}{id:Nat}{b:Blk},(heapOf l).get id=some b→∃ c,(id,c)∈l∧b=⟨false,c.length,PM.write c .leaf 0,[],.no⟩
 | [],id,b,h=>by simp [heapOf] at h
 | (i,c) :: r,id,b,h=>by
  simp only [heapOf] at h
  rw [PM.get_set _ _ _ _ _ (by omega)] at h
  by_cases hi:id=i
  ·rw [if_pos hi] at h;cases h;exact ⟨c,by simp [hi],rfl⟩
  ·rw [if_neg hi] at h
   obtain ⟨c',h1,h2⟩:=heapOf_get h
   exact ⟨c',by simp [h1],h2⟩
def laidCells (P:Program):List (String×DataW Unit)→Nat→Option (List (Nat×List S)×Nat)
 | [],nx=>some ([],nx)
 | (n,d) :: r,nx=>match P.globalNamed n with
  | some g=>match (P.globals[g]?).map (·.type) with
   | some t=>match evRd P 50 t d nx with
    | some (l,bl,n1)=>match laidCells P r n1 with
     | some (rest,n2)=>some ((g,l) :: (bl ++ rest),n2)
     | none=>none
    | none=>none
   | none=>none
  | none=>none
section
variable {P:Program}{W:World}
theorem laidCells_ok {g:Nat}:∀ {laid:List (String×DataW Unit)}{ps:List MemPlace}{l:List (Nat×List S)}{nx nx':Nat},DataW.LaidVars P W laid ps→PlOk W ps→laidCells P laid nx=some (l,nx') →
  ∀ σ:Map,(∀ i,i<g→σ i=some (i,0,match W.heap[i]? with | some (.cells c _ _)=>c.size | _=>0))→(∀ n g',P.globalNamed n=some g'→g'<g)→(∀ id,nx≤id→σ id=none) →
   nx≤nx'∧∃ τ:Map,σ.le τ∧(∀ id,nx'≤id→τ id=none)∧∀ p∈l,Blkd τ W p
 | [],ps,l,nx,nx',hv,hps,h,σ,hσ,hgl,hf=>by
  simp only [laidCells,Option.some.injEq,Prod.mk.injEq] at h
  obtain ⟨rfl,rfl⟩:=h
  exact ⟨Nat.le_refl _,σ,Map.le.refl σ,hf,fun p hp=>by cases hp⟩
 | (n,d) :: r,ps,l,nx,nx',hv,hps,h,σ,hσ,hgl,hf=>by
  obtain ⟨gi,t,cs,fuel,p,q,e1,e2,e3,e4,e5,e6⟩:=hv
  simp only [laidCells,e1,e2] at h
  split at h
  ·rename_i l1 bl n1 hr
   split at h
   ·rename_i rest n2 hrest
    simp only [Option.some.injEq,Prod.mk.injEq] at h
    obtain ⟨rfl,rfl⟩:=h
    subst e6
    obtain ⟨hn1,τ,q1,q2,q3,q4⟩:=evRd_ok 50 fuel t d nx l1 bl n1 cs.toList p hr e4 (fun b off hb=>hps b off (by simp [hb])) σ hf
    have hτ:∀ id,n1≤id→τ id=none:=fun id hid=>by rw [q2 id (by omega)];exact hf id (by omega)
    have hσ':∀ i,i<g→τ i=some (i,0,match W.heap[i]? with | some (.cells c _ _)=>c.size | _=>0):=fun i hi=>q1 _ _ (hσ i hi)
    obtain ⟨hn2,τ',f1,f2,f3⟩:=laidCells_ok e5 (fun b off hb=>hps b off (by simp [hb])) hrest τ hσ' hgl hτ
    refine ⟨by omega,τ',q1.trans f1,f2,fun x hx=>?_⟩
    rcases List.mem_cons.1 hx with rfl | hx
    ·simp only [World.var?,e1,Option.bind_some] at e3
     cases hb:W.heap[gi]? with
     | none=>rw [hb] at e3;cases e3
     | some ob =>
      rw [hb] at e3
      cases ob with
      | cells c ty fr =>
       simp only [Option.some.injEq] at e3
       subst e3
       have hs:=hσ' gi (hgl n gi e1)
       rw [hb] at hs
       have hlen:=q3.length
       refine ⟨gi,0,c.size,c,ty,fr,f1 _ _ hs,hb,rfl,by simp at hlen;simp only;omega,fun i s hi=>?_⟩
       obtain ⟨v,hv,hr'⟩:=q3.get i hi
       exact ⟨v,by simpa using hv,hr'.mono f1⟩
      | map a b=>cases e3
      | _=>cases e3
    ·rcases List.mem_append.1 hx with hx | hx
     ·exact (q4 x hx).mono f1
     ·exact f3 x hx
   ·cases h
  ·cases h
theorem laid_rel {laid:List (String×DataW Unit)}{g nx':Nat}{l:List (Nat×List S)} (hL:laidMet P laid W) (hgl:∀ n g',P.globalNamed n=some g'→g'<g) (h:laidCells P laid g=some (l,nx')) :
  ∃ σ:Map,RelH σ (stOf l nx') W∧Globals σ g∧∀ lim,Free σ nx' lim:=by
 obtain ⟨ps,h1,_,h3⟩:=hL
 have hps:PlOk W ps:=fun b off hb=>(h3 b off hb).1
 obtain ⟨hn,τ,q1,q2,q3⟩:=laidCells_ok (g:=g) h1 hps h (fun i=>if i<g then some (i,0,match W.heap[i]? with | some (.cells c _ _)=>c.size | _=>0) else none) (fun i hi=>if_pos hi) hgl (fun id hid=>if_neg (by omega))
 refine ⟨τ,⟨fun id b hb=>?_,fun id id' b b' x y hb hb' _ hown=>?_,fun id b hb=>?_⟩,fun i hi=>?_,fun lim id hid _=>q2 id hid⟩
 ·obtain ⟨c,hm,rfl⟩:=heapOf_get hb
  obtain ⟨B,o,n,cells,e,fr,a1,a2,a3,a4,a5⟩:=q3 _ hm
  refine .of_no rfl ⟨B,o,n,cells,e,fr,a1,a2,(fun hh=>by cases hh),a3,a4,fun i s hs=>?_⟩
  exact a5 i s (cell_fresh hs)
 ·obtain ⟨c,_,rfl⟩:=heapOf_get hb
  obtain ⟨c',_,rfl⟩:=heapOf_get hb'
  rcases hown with hh | hh <;> cases hh
 ·obtain ⟨c,hm,rfl⟩:=heapOf_get hb
  obtain ⟨B,o,n,cells,e,fr,a1,_⟩:=q3 _ hm
  show id<nx'
  refine Classical.byContradiction fun hh=>?_
  rw [q2 id (by omega)] at a1;cases a1
 ·exact ⟨_,q1 _ _ (if_pos hi)⟩
noncomputable def saysTrue (v:V) (st:St):R:=match v with
 | .sc (.bool true)=>.done .normal .leaf ⟨.leaf,0,0⟩
 | _=>.fail 1
theorem grown_of {σ σ':Map}{st st':St}{w w':World}{lw:Nat} (h:Ext σ σ' st st' w w' lw) (hown:∀ id b,st.heap.get id=some b→b.own=false):Grown w w':=by
 refine ⟨⟨h.os,h.output,fun i hi=>?_⟩,h.fro,h.size⟩
 have he:w'.heap[i]?=w.heap[i]?:=h.frame i hi fun id b x hb ho=>by rw [hown id b hb] at ho;cases ho
 rw [he]
 exact (World.keptBut_refl w (fun _=>False)).2.2 i hi
@[reducible] def lpOf (P:Program) (g:Nat) (F:Nat→Option HF):LoopP where
 rel:=LRel P g F
 mono:=fun hle h=>⟨RelF.mono hle h.1,h.2⟩
 still:=fun _ _ h=>h
omit [LoopP] in
theorem closed_law {F:Nat→Option HF} (hm:P.follows .mixedOrders=true) {g k f nx':Nat}{laid:List (String×DataW Unit)}{l:List (Nat×List S)} (hF:∀ f cf,F f=some cf→okF P g f cf)
  (hgl:∀ n g',P.globalNamed n=some g'→g'<g) (hlaid:laidCells P laid g=some (l,nx')) (hfb:f<yBase) (hrun:callK F (run F k) f [] (stOf l nx') saysTrue=.done .normal .leaf ⟨.leaf,0,0⟩) (hL:laidMet P laid W) :
  Calls P f #[] W fun e w'=>e=.returned (.bool true)∧Grown W w':=by
 letI:LoopP:=lpOf P g F
 have hLP:IsLP P g F:=fun _ _ _ _ _=>Iff.rfl
 obtain ⟨σ,h1,h2,h3⟩:=laid_rel hL hgl hlaid
 obtain ⟨v,st',a1,a2,a45⟩:=callK_ok hLP hm hF k f [] (stOf l nx') saysTrue _ _ _ hrun
 rcases a45 with ⟨_,_,a4⟩ | ⟨a5,_⟩
 rotate_left
 ·exact absurd a5 (by omega)
 refine Calls.mono (a4 σ #[] W st'.next .nil h2 h1 (h3 _) (Nat.le_refl _)) fun e w' he=>?_
 obtain ⟨v',σ',rfl,hext,hrel⟩:=he
 have hv:v=.sc (.bool true):=by
  unfold saysTrue at a1
  split at a1
  ·rfl
  ·cases a1
 subst hv
 cases hrel with
 | sc hr =>
  cases hr
  exact ⟨rfl,grown_of hext fun id b hb=>by obtain ⟨c,_,rfl⟩:=heapOf_get hb;rfl⟩
end
end
section
theorem none_some {P:Program}{g a:Nat}:∀ cf,(none:Option HF)=some cf→okF P g a cf:=fun _ h=>by cases h
theorem some_some {P:Program}{g a:Nat}{c:HF} (e:okF P g a c):∀ cf,some c=some cf→okF P g a cf:=fun _ h=>by cases h;exact e
def AllT (P:Program) (g:Nat):PM HF→Nat→Nat→Prop
 | .leaf,_,_=>True
 | .node l v r,a,b=>(∀ cf,v=some cf→okF P g a cf)∧AllT P g l (a+b) (2 * b)∧AllT P g r (a+2 * b) (2 * b)
theorem AllT.get {P:Program}{g:Nat}:∀ {m:PM HF}{a b:Nat},AllT P g m a b→∀ (k:Nat) (cf:HF),m.get k=some cf→okF P g (a+b * k) cf
 | .leaf,a,b,h,k,cf,hk=>by simp at hk
 | .node l v r,a,b,h,0,cf,hk=>by
  have:v=some cf:=hk
  simpa using h.1 cf this
 | .node l v r,a,b,h,j+1,cf,hk=>by
  rw [PM.get_succ] at hk
  split at hk
  ·rename_i hj
   have key:=AllT.get h.2.1 (j / 2) cf hk
   have e:a+b * (j+1)=a+b+2 * b * (j / 2):=by
    have hj2:j=2 * (j / 2):=by omega
    generalize j / 2=i at hj2
    subst hj2
    rw [Nat.mul_add,← Nat.mul_assoc,Nat.mul_comm b 2];omega
   rw [e];exact key
  ·rename_i hj
   have key:=AllT.get h.2.2 (j / 2) cf hk
   have e:a+b * (j+1)=a+2 * b+2 * b * (j / 2):=by
    have hj2:j=2 * (j / 2)+1:=by omega
    generalize j / 2=i at hj2
    subst hj2
    have:b * (2 * i+1+1)=2 * b+2 * b * i:=by rw [Nat.mul_assoc];rw [show 2 * i+1+1=2 * (1+i) by omega,Nat.mul_left_comm,Nat.mul_add];simp [Nat.mul_add]
    rw [this];omega
   rw [e];exact key
theorem table_ok {P:Program}{g:Nat}{m:PM HF} (h:AllT P g m 0 1):∀ f cf,m.get f=some cf→okF P g f cf:=fun f cf hf=>by
 have:=h.get f cf hf
 simpa using this
end
section
abbrev Mks:=Option (List Value×List (Nat×TypeId×List Value)×Nat)
def mkList (rd:TypeId→DataW Unit→Nat→Mks):List TypeId→List (DataW Unit)→Nat→Mks
 | t :: ts,d :: ds,nx=>match rd t d nx with
  | some (l,b,n)=>match mkList rd ts ds n with
   | some (l',b',n')=>some (l ++ l',b ++ b',n')
   | none=>none
  | none=>none
 | _,_,nx=>some ([],[],nx)
def mkVal (P:Program):Nat→TypeId→DataW Unit→Nat→Mks
 | 0,_,_,_=>none
 | f+1,t,d,nx=>match P.underlying t,d with
  | some .bool,.lit (.bool b)=>some ([.bool b],[],nx)
  | some (.int _),.lit (.int k n)=>some ([.int k n],[],nx)
  | some .string,.lit (.string s)=>some ([.string ⟨s.toArray⟩],[],nx)
  | some (.slice _),.nil=>some ([.slice none 0 0],[],nx)
  | some (.pointer _),.nil=>some ([.pointer none],[],nx)
  | some (.slice e),.slice de dr=>match mkList (mkVal P f) ((List.range (de.length+dr.length)).map fun _=>e) (de ++ dr) (nx+1) with
   | some (l,b,n)=>some ([.slice (some ⟨nx,0,none⟩) de.length (de.length+dr.length)],(nx,e,l) :: b,n)
   | none=>none
  | some (.struct fs),.agg ds=>mkList (mkVal P f) (fs.toList.map (·.type)) ds nx
  | some (.array n e),.agg ds=>mkList (mkVal P f) ((List.range n).map fun _=>e) ds nx
  | _,_=>none
def mkLaid (P:Program):List (String×DataW Unit)→Nat→Option (List (Nat×List Value)×List (Nat×TypeId×List Value)×Nat)
 | [],nx=>some ([],[],nx)
 | (n,d) :: r,nx=>match P.globalNamed n with
  | some g=>match P.globals[g]? with
   | some x=>match mkVal P 50 x.type d nx with
    | some (l,b,n1)=>match mkLaid P r n1 with
     | some (gs,b',n2)=>some ((g,l) :: gs,b ++ b',n2)
     | none=>none
    | none=>none
   | none=>none
  | none=>none
def laidHeap (h:Array Obj) (gs:List (Nat×List Value)) (bs:List (Nat×TypeId×List Value)) (nx n:Nat):Array Obj :=
 let h:=gs.foldl (fun h p=>h.modify p.1 (fun | .cells _ t fr=>.cells p.2.toArray t fr | o=>o)) h
 (List.range n).foldl (fun h i=>match bs.find? (fun p=>p.1 == nx+i) with | some p=>h.push (.cells p.2.2.toArray p.2.1) | none=>h) h
noncomputable def laidWorld (P:Program) (os:Os) (laid:List (String×DataW Unit)) (nx:Nat):World :=
 { World.settled P os with heap:=match mkLaid P laid nx with | some (gs,bs,n)=>laidHeap (World.settled P os).heap gs bs nx (n - nx) | none=>#[] }
theorem globalNamed_lt {P:Program}{n:String}{g:Nat} (h:P.globalNamed n=some g):g<P.globals.size:=by
 unfold Program.globalNamed at h
 split at h
 ·rename_i g' hf
  cases h
  have:g∈(List.range P.globals.size).filter fun g=>(P.globals[g]?).any (·.name == n):=by rw [hf];exact List.mem_singleton.2 rfl
  exact List.mem_range.1 (List.mem_filter.1 this).1
 ·cases h
theorem okWide_array {P:Program}{w:World}{r:Reach}{base n:Nat}{t e:TypeId}{v:Value} (ht:P.underlying t=some (.array n e)) (h:Value.okWide P w r base t v):∃ cs,v=.agg cs∧cs.size=P.cellsOf t:=by
 simp only [Value.okWide,ht] at h
 obtain ⟨cs,h1,h2,_⟩:=h
 exact ⟨cs,h1,h2⟩
end
section
noncomputable def ld1 (st:St) (a:V) (K:V→R):R:=asPtr 63 a fun id off=>load1K st id off K
noncomputable def ldN (st:St) (n:Nat) (a:V) (K:V→R):R:=asPtr 63 a fun id off=>loadNK st n id off K
noncomputable def sto (st:St) (n:Nat) (a x:V) (K:St→R):R:=asPtr 64 a fun id off=>iteB (Nat.beq (lenL (cellsV x)) n) (notTup x (storeK st id off (cellsV x) K)) (.fail 64)
noncomputable def fad (o:Nat) (x:V) (K:V→R):R:=asPtr 71 x fun id off=>seqN (Nat.add off o) fun o=>K (.sc (.ptr id o))
noncomputable def ixs (z:Nat) (x i:V) (K:V→R):R:=asNat 77 i fun i=>asSc 76 x (idxK z i K)
noncomputable def lnS (x:V) (K:V→R):R:=asSc 36 x fun s=>lenL' s fun n=>K (.sc (.int .i64 (.ofNat n)))
noncomputable def alc (st:St) (z:List S) (K:V→St→R):R:=allocL st z fun id st=>K (.sc (.ptr id 0)) st
noncomputable def bxx (st:St) (x:V) (K:V→St→R):R:=notTup x (allocL st (cellsV x) fun id st=>K (.sc (.ptr id 0)) st)
noncomputable def cnv (k:IntKind) (x:V) (K:V→R):R:=asInt' 67 x fun _ n=>intK k n K
noncomputable def ixA (len z:Nat) (x i:V) (K:V→R):R:=asNat 77 i fun i=>iteB (Nat.blt i len) (asPtr 76 x fun id off=>seqN (Nat.add off (Nat.mul i z)) fun o=>K (.sc (.ptr id o))) (.fail 74)
noncomputable def fld (o n:Nat) (agg:Bool) (x:V) (K:V→R):R:=partK o n agg K x
noncomputable def nott (x:V) (K:V→R):R:=asBool' 66 x fun b=>boolK (not b) K
noncomputable def i6 (n:Nat):V:=.sc (.int .i64 (.ofNat n))
noncomputable def u6 (n:Nat):V:=.sc (.int .u64 (.ofNat n))
noncomputable def u8 (n:Nat):V:=.sc (.int .u8 (.ofNat n))
noncomputable def ld (st:St) (a:V) (K:V→R):R:=asPtr 63 a fun id off=>load1K st id off K
noncomputable def lN (st:St) (n:Nat) (a:V) (K:V→R):R:=asPtr 63 a fun id off=>loadNK st n id off K
noncomputable def xA (z b:Nat) (s x:V) (call:CallK) (ρ:Ev) (st:St) (K:V→St→R):R:=h_op3_append z b (.c s) (.c x) call ρ st K
noncomputable def xM (z b:Nat) (l:List S) (x c:V) (call:CallK) (ρ:Ev) (st:St) (K:V→St→R):R:=h_op3_makeS z b l (.c x) (.c c) call ρ st K
noncomputable def xE (i:Nat) (x:V) (call:CallK) (ρ:Ev) (st:St) (K:V→St→R):R:=h_op4_extract i (.c x) call ρ st K
noncomputable def xC (x:V) (call:CallK) (ρ:Ev) (st:St) (K:V→St→R):R:=h_op4_nilCheck (.c x) call ρ st K
noncomputable def xS (b:Bool) (x y:V) (call:CallK) (ρ:Ev) (st:St) (K:V→St→R):R:=h_op4_shift b (.c x) (.c y) call ρ st K
noncomputable def jf (g:V) (o:(V→R)→R) (st:St) (j:V→St→R):R:=jn false g (fun j=>o fun v=>j v st) st j
noncomputable def jt (g:V) (o:(V→R)→R) (st:St) (j:V→St→R):R:=jn true g (fun j=>o fun v=>j v st) st j
noncomputable def mf (g x:V) (st:St) (j:V→St→R):R:=jn false g (fun j=>j x st) st j
noncomputable def mt (g x:V) (st:St) (j:V→St→R):R:=jn true g (fun j=>j x st) st j
def zi:S:=.int .i64 (.ofNat (nat_lit 0))
def zu:S:=.int .u64 (.ofNat (nat_lit 0))
def zb:S:=.int .u8 (.ofNat (nat_lit 0))
abbrev zn:S:=.nils
noncomputable def tt:V:=.sc (.bool true)
noncomputable def ff:V:=.sc (.bool false)
def n0:Nat:=nat_lit 0
def n1:Nat:=nat_lit 1
def n2:Nat:=nat_lit 2
def n3:Nat:=nat_lit 3
def n4:Nat:=nat_lit 4
def n5:Nat:=nat_lit 5
def n6:Nat:=nat_lit 6
def n7:Nat:=nat_lit 7
def n8:Nat:=nat_lit 8
def n9:Nat:=nat_lit 9
def n10:Nat:=nat_lit 10
def n11:Nat:=nat_lit 11
def n12:Nat:=nat_lit 12
def n13:Nat:=nat_lit 13
def n14:Nat:=nat_lit 14
def n15:Nat:=nat_lit 15
def n16:Nat:=nat_lit 16
def n17:Nat:=nat_lit 17
def n18:Nat:=nat_lit 18
def n19:Nat:=nat_lit 19
def n20:Nat:=nat_lit 20
def n21:Nat:=nat_lit 21
def n22:Nat:=nat_lit 22
def n23:Nat:=nat_lit 23
def n24:Nat:=nat_lit 24
def n25:Nat:=nat_lit 25
def n26:Nat:=nat_lit 26
def n27:Nat:=nat_lit 27
def n28:Nat:=nat_lit 28
def n29:Nat:=nat_lit 29
def n30:Nat:=nat_lit 30
def n31:Nat:=nat_lit 31
def n32:Nat:=nat_lit 32
def n33:Nat:=nat_lit 33
def n34:Nat:=nat_lit 34
def n35:Nat:=nat_lit 35
def n36:Nat:=nat_lit 36
def n37:Nat:=nat_lit 37
def n38:Nat:=nat_lit 38
def n39:Nat:=nat_lit 39
def n40:Nat:=nat_lit 40
def n41:Nat:=nat_lit 41
def n42:Nat:=nat_lit 42
def n43:Nat:=nat_lit 43
def n44:Nat:=nat_lit 44
def n45:Nat:=nat_lit 45
def n46:Nat:=nat_lit 46
def n47:Nat:=nat_lit 47
def n48:Nat:=nat_lit 48
def n49:Nat:=nat_lit 49
def n50:Nat:=nat_lit 50
def n51:Nat:=nat_lit 51
def n52:Nat:=nat_lit 52
def n53:Nat:=nat_lit 53
def n54:Nat:=nat_lit 54
def n55:Nat:=nat_lit 55
def n56:Nat:=nat_lit 56
def n57:Nat:=nat_lit 57
def n58:Nat:=nat_lit 58
def n59:Nat:=nat_lit 59
def n60:Nat:=nat_lit 60
def n61:Nat:=nat_lit 61
def n62:Nat:=nat_lit 62
def n63:Nat:=nat_lit 63
def n64:Nat:=nat_lit 64
def n65:Nat:=nat_lit 65
def n66:Nat:=nat_lit 66
def n67:Nat:=nat_lit 67
def n68:Nat:=nat_lit 68
def n69:Nat:=nat_lit 69
def n70:Nat:=nat_lit 70
def n71:Nat:=nat_lit 71
def n72:Nat:=nat_lit 72
def n73:Nat:=nat_lit 73
def n74:Nat:=nat_lit 74
def n75:Nat:=nat_lit 75
def n76:Nat:=nat_lit 76
def n77:Nat:=nat_lit 77
def n78:Nat:=nat_lit 78
def n79:Nat:=nat_lit 79
def n80:Nat:=nat_lit 80
def n81:Nat:=nat_lit 81
def n82:Nat:=nat_lit 82
def n83:Nat:=nat_lit 83
def n84:Nat:=nat_lit 84
def n85:Nat:=nat_lit 85
def n86:Nat:=nat_lit 86
def n87:Nat:=nat_lit 87
def n88:Nat:=nat_lit 88
def n89:Nat:=nat_lit 89
def n90:Nat:=nat_lit 90
def n91:Nat:=nat_lit 91
def n92:Nat:=nat_lit 92
def n93:Nat:=nat_lit 93
def n94:Nat:=nat_lit 94
def n95:Nat:=nat_lit 95
def n96:Nat:=nat_lit 96
def n97:Nat:=nat_lit 97
def n98:Nat:=nat_lit 98
def n99:Nat:=nat_lit 99
def n100:Nat:=nat_lit 100
def n101:Nat:=nat_lit 101
def n102:Nat:=nat_lit 102
def n103:Nat:=nat_lit 103
def n104:Nat:=nat_lit 104
def n105:Nat:=nat_lit 105
def n106:Nat:=nat_lit 106
def n107:Nat:=nat_lit 107
def n108:Nat:=nat_lit 108
def n109:Nat:=nat_lit 109
def n110:Nat:=nat_lit 110
def n111:Nat:=nat_lit 111
def n112:Nat:=nat_lit 112
def n113:Nat:=nat_lit 113
def n114:Nat:=nat_lit 114
def n115:Nat:=nat_lit 115
def n116:Nat:=nat_lit 116
def n117:Nat:=nat_lit 117
def n118:Nat:=nat_lit 118
def n119:Nat:=nat_lit 119
def n120:Nat:=nat_lit 120
def n121:Nat:=nat_lit 121
def n122:Nat:=nat_lit 122
def n123:Nat:=nat_lit 123
def n124:Nat:=nat_lit 124
def n125:Nat:=nat_lit 125
def n126:Nat:=nat_lit 126
def n127:Nat:=nat_lit 127
def n128:Nat:=nat_lit 128
def n129:Nat:=nat_lit 129
def n130:Nat:=nat_lit 130
def n131:Nat:=nat_lit 131
def n132:Nat:=nat_lit 132
def n133:Nat:=nat_lit 133
def n134:Nat:=nat_lit 134
def n135:Nat:=nat_lit 135
def n136:Nat:=nat_lit 136
def n137:Nat:=nat_lit 137
def n138:Nat:=nat_lit 138
def n139:Nat:=nat_lit 139
def n140:Nat:=nat_lit 140
def n141:Nat:=nat_lit 141
def n142:Nat:=nat_lit 142
def n143:Nat:=nat_lit 143
def n144:Nat:=nat_lit 144
def n145:Nat:=nat_lit 145
def n146:Nat:=nat_lit 146
def n147:Nat:=nat_lit 147
def n148:Nat:=nat_lit 148
def n149:Nat:=nat_lit 149
def n150:Nat:=nat_lit 150
def n151:Nat:=nat_lit 151
def n152:Nat:=nat_lit 152
def n153:Nat:=nat_lit 153
def n154:Nat:=nat_lit 154
def n155:Nat:=nat_lit 155
def n156:Nat:=nat_lit 156
def n157:Nat:=nat_lit 157
def n158:Nat:=nat_lit 158
def n159:Nat:=nat_lit 159
def q0:Pth:=.here
def q1:Pth:=.l q0
def q2:Pth:=.r q0
def q3:Pth:=.l q1
def q4:Pth:=.r q1
def q5:Pth:=.l q2
def q6:Pth:=.r q2
def q7:Pth:=.l q3
def q8:Pth:=.r q3
def q9:Pth:=.l q4
def q10:Pth:=.r q4
def q11:Pth:=.l q5
def q12:Pth:=.r q5
def q13:Pth:=.l q6
def q14:Pth:=.r q6
def q15:Pth:=.l q7
def q16:Pth:=.r q7
def q17:Pth:=.l q8
def q18:Pth:=.r q8
def q19:Pth:=.l q9
def q20:Pth:=.r q9
def q21:Pth:=.l q10
def q22:Pth:=.r q10
def q23:Pth:=.l q11
def q24:Pth:=.r q11
def q25:Pth:=.l q12
def q26:Pth:=.r q12
def q27:Pth:=.l q13
def q28:Pth:=.r q13
def q29:Pth:=.l q14
def q30:Pth:=.r q14
def q31:Pth:=.l q15
def q32:Pth:=.r q15
def q33:Pth:=.l q16
def q34:Pth:=.r q16
def q35:Pth:=.l q17
def q36:Pth:=.r q17
def q37:Pth:=.l q18
def q38:Pth:=.r q18
def q39:Pth:=.l q19
def q40:Pth:=.r q19
def q41:Pth:=.l q20
def q42:Pth:=.r q20
def q43:Pth:=.l q21
def q44:Pth:=.r q21
def q45:Pth:=.l q22
def q46:Pth:=.r q22
def q47:Pth:=.l q23
def q48:Pth:=.r q23
def q49:Pth:=.l q24
def q50:Pth:=.r q24
def q51:Pth:=.l q25
def q52:Pth:=.r q25
def q53:Pth:=.l q26
def q54:Pth:=.r q26
def q55:Pth:=.l q27
def q56:Pth:=.r q27
def q57:Pth:=.l q28
def q58:Pth:=.r q28
def q59:Pth:=.l q29
def q60:Pth:=.r q29
def q61:Pth:=.l q30
def q62:Pth:=.r q30
def q63:Pth:=.l q31
def q64:Pth:=.r q31
def q65:Pth:=.l q32
def q66:Pth:=.r q32
def q67:Pth:=.l q33
def q68:Pth:=.r q33
def q69:Pth:=.l q34
def q70:Pth:=.r q34
def q71:Pth:=.l q35
def q72:Pth:=.r q35
def q73:Pth:=.l q36
def q74:Pth:=.r q36
def q75:Pth:=.l q37
def q76:Pth:=.r q37
def q77:Pth:=.l q38
def q78:Pth:=.r q38
def q79:Pth:=.l q39
def q80:Pth:=.r q39
def q81:Pth:=.l q40
def q82:Pth:=.r q40
def q83:Pth:=.l q41
def q84:Pth:=.r q41
def q85:Pth:=.l q42
def q86:Pth:=.r q42
def q87:Pth:=.l q43
def q88:Pth:=.r q43
def q89:Pth:=.l q44
def q90:Pth:=.r q44
def q91:Pth:=.l q45
def q92:Pth:=.r q45
def q93:Pth:=.l q46
def q94:Pth:=.r q46
def q95:Pth:=.l q47
def q96:Pth:=.r q47
def q97:Pth:=.l q48
def q98:Pth:=.r q48
def q99:Pth:=.l q49
def q100:Pth:=.r q49
def q101:Pth:=.l q50
def q102:Pth:=.r q50
def q103:Pth:=.l q51
def q104:Pth:=.r q51
def q105:Pth:=.l q52
def q106:Pth:=.r q52
def q107:Pth:=.l q53
def q108:Pth:=.r q53
def q109:Pth:=.l q54
def q110:Pth:=.r q54
def q111:Pth:=.l q55
def q112:Pth:=.r q55
def q113:Pth:=.l q56
def q114:Pth:=.r q56
def q115:Pth:=.l q57
def q116:Pth:=.r q57
def q117:Pth:=.l q58
def q118:Pth:=.r q58
def q119:Pth:=.l q59
def q120:Pth:=.r q59
def q121:Pth:=.l q60
def q122:Pth:=.r q60
def q123:Pth:=.l q61
def q124:Pth:=.r q61
def q125:Pth:=.l q62
def q126:Pth:=.r q62
def q127:Pth:=.l q63
def q128:Pth:=.r q63
def q129:Pth:=.l q64
def q130:Pth:=.r q64
def q131:Pth:=.l q65
def q132:Pth:=.r q65
def q133:Pth:=.l q66
def q134:Pth:=.r q66
def q135:Pth:=.l q67
def q136:Pth:=.r q67
def q137:Pth:=.l q68
def q138:Pth:=.r q68
def q139:Pth:=.l q69
def q140:Pth:=.r q69
def q141:Pth:=.l q70
def q142:Pth:=.r q70
def q143:Pth:=.l q71
def q144:Pth:=.r q71
def q145:Pth:=.l q72
def q146:Pth:=.r q72
def q147:Pth:=.l q73
def q148:Pth:=.r q73
def q149:Pth:=.l q74
def q150:Pth:=.r q74
def q151:Pth:=.l q75
def q152:Pth:=.r q75
def q153:Pth:=.l q76
def q154:Pth:=.r q76
def q155:Pth:=.l q77
def q156:Pth:=.r q77
def q157:Pth:=.l q78
def q158:Pth:=.r q78
def q159:Pth:=.l q79
def q160:Pth:=.r q79
def q161:Pth:=.l q80
def q162:Pth:=.r q80
def q163:Pth:=.l q81
def q164:Pth:=.r q81
def q165:Pth:=.l q82
def q166:Pth:=.r q82
def q167:Pth:=.l q83
def q168:Pth:=.r q83
def q169:Pth:=.l q84
def q170:Pth:=.r q84
def q171:Pth:=.l q85
def q172:Pth:=.r q85
def q173:Pth:=.l q86
def q174:Pth:=.r q86
def q175:Pth:=.l q87
def q176:Pth:=.r q87
def q177:Pth:=.l q88
def q178:Pth:=.r q88
def q179:Pth:=.l q89
def q180:Pth:=.r q89
def q181:Pth:=.l q90
def q182:Pth:=.r q90
def q183:Pth:=.l q91
def q184:Pth:=.r q91
def q185:Pth:=.l q92
def q186:Pth:=.r q92
def q187:Pth:=.l q93
def q188:Pth:=.r q93
def q189:Pth:=.l q94
def q190:Pth:=.r q94
def q191:Pth:=.l q95
def q192:Pth:=.r q95
def q193:Pth:=.l q96
def q194:Pth:=.r q96
def q195:Pth:=.l q97
def q196:Pth:=.r q97
def q197:Pth:=.l q98
def q198:Pth:=.r q98
def q199:Pth:=.l q99
def q200:Pth:=.r q99
def q201:Pth:=.l q100
def q202:Pth:=.r q100
def q203:Pth:=.l q101
def q204:Pth:=.r q101
def q205:Pth:=.l q102
def q206:Pth:=.r q102
def q207:Pth:=.l q103
def q208:Pth:=.r q103
def q209:Pth:=.l q104
def q210:Pth:=.r q104
def q211:Pth:=.l q105
def q212:Pth:=.r q105
def q213:Pth:=.l q106
def q214:Pth:=.r q106
def q215:Pth:=.l q107
def q216:Pth:=.r q107
def q217:Pth:=.l q108
def q218:Pth:=.r q108
def q219:Pth:=.l q109
def q220:Pth:=.r q109
def q221:Pth:=.l q110
def q222:Pth:=.r q110
def q223:Pth:=.l q111
def q224:Pth:=.r q111
def q225:Pth:=.l q112
def q226:Pth:=.r q112
def q227:Pth:=.l q113
def q228:Pth:=.r q113
def q229:Pth:=.l q114
def q230:Pth:=.r q114
def q231:Pth:=.l q115
def q232:Pth:=.r q115
def q233:Pth:=.l q116
def q234:Pth:=.r q116
def q235:Pth:=.l q117
def q236:Pth:=.r q117
def q237:Pth:=.l q118
def q238:Pth:=.r q118
def q239:Pth:=.l q119
def q240:Pth:=.r q119
def q241:Pth:=.l q120
def q242:Pth:=.r q120
def q243:Pth:=.l q121
def q244:Pth:=.r q121
def q245:Pth:=.l q122
def q246:Pth:=.r q122
def q247:Pth:=.l q123
def q248:Pth:=.r q123
def q249:Pth:=.l q124
def q250:Pth:=.r q124
def q251:Pth:=.l q125
def q252:Pth:=.r q125
def q253:Pth:=.l q126
def q254:Pth:=.r q126
def q255:Pth:=.l q127
noncomputable def I0:V:=i6 n0
noncomputable def U0:V:=u6 n0
noncomputable def B0:V:=u8 n0
noncomputable def I1:V:=i6 n1
noncomputable def U1:V:=u6 n1
noncomputable def B1:V:=u8 n1
noncomputable def I2:V:=i6 n2
noncomputable def U2:V:=u6 n2
noncomputable def B2:V:=u8 n2
noncomputable def I3:V:=i6 n3
noncomputable def U3:V:=u6 n3
noncomputable def B3:V:=u8 n3
noncomputable def I4:V:=i6 n4
noncomputable def U4:V:=u6 n4
noncomputable def B4:V:=u8 n4
noncomputable def I5:V:=i6 n5
noncomputable def U5:V:=u6 n5
noncomputable def B5:V:=u8 n5
noncomputable def I6:V:=i6 n6
noncomputable def U6:V:=u6 n6
noncomputable def B6:V:=u8 n6
noncomputable def I7:V:=i6 n7
noncomputable def U7:V:=u6 n7
noncomputable def B7:V:=u8 n7
noncomputable def I8:V:=i6 n8
noncomputable def U8:V:=u6 n8
noncomputable def B8:V:=u8 n8
noncomputable def I9:V:=i6 n9
noncomputable def U9:V:=u6 n9
noncomputable def B9:V:=u8 n9
noncomputable def I10:V:=i6 n10
noncomputable def U10:V:=u6 n10
noncomputable def B10:V:=u8 n10
noncomputable def I11:V:=i6 n11
noncomputable def U11:V:=u6 n11
noncomputable def B11:V:=u8 n11
noncomputable def I12:V:=i6 n12
noncomputable def U12:V:=u6 n12
noncomputable def B12:V:=u8 n12
noncomputable def I13:V:=i6 n13
noncomputable def U13:V:=u6 n13
noncomputable def B13:V:=u8 n13
noncomputable def I14:V:=i6 n14
noncomputable def U14:V:=u6 n14
noncomputable def B14:V:=u8 n14
noncomputable def I15:V:=i6 n15
noncomputable def U15:V:=u6 n15
noncomputable def B15:V:=u8 n15
noncomputable def I16:V:=i6 n16
noncomputable def U16:V:=u6 n16
noncomputable def B16:V:=u8 n16
noncomputable def I17:V:=i6 n17
noncomputable def U17:V:=u6 n17
noncomputable def B17:V:=u8 n17
noncomputable def I18:V:=i6 n18
noncomputable def U18:V:=u6 n18
noncomputable def B18:V:=u8 n18
noncomputable def I19:V:=i6 n19
noncomputable def U19:V:=u6 n19
noncomputable def B19:V:=u8 n19
noncomputable def I20:V:=i6 n20
noncomputable def U20:V:=u6 n20
noncomputable def B20:V:=u8 n20
noncomputable def I21:V:=i6 n21
noncomputable def U21:V:=u6 n21
noncomputable def B21:V:=u8 n21
noncomputable def I22:V:=i6 n22
noncomputable def U22:V:=u6 n22
noncomputable def B22:V:=u8 n22
noncomputable def I23:V:=i6 n23
noncomputable def U23:V:=u6 n23
noncomputable def B23:V:=u8 n23
noncomputable def I24:V:=i6 n24
noncomputable def U24:V:=u6 n24
noncomputable def B24:V:=u8 n24
noncomputable def I25:V:=i6 n25
noncomputable def U25:V:=u6 n25
noncomputable def B25:V:=u8 n25
noncomputable def I26:V:=i6 n26
noncomputable def U26:V:=u6 n26
noncomputable def B26:V:=u8 n26
noncomputable def I27:V:=i6 n27
noncomputable def U27:V:=u6 n27
noncomputable def B27:V:=u8 n27
noncomputable def I28:V:=i6 n28
noncomputable def U28:V:=u6 n28
noncomputable def B28:V:=u8 n28
noncomputable def I29:V:=i6 n29
noncomputable def U29:V:=u6 n29
noncomputable def B29:V:=u8 n29
noncomputable def I30:V:=i6 n30
noncomputable def U30:V:=u6 n30
noncomputable def B30:V:=u8 n30
noncomputable def I31:V:=i6 n31
noncomputable def U31:V:=u6 n31
noncomputable def B31:V:=u8 n31
noncomputable def I32:V:=i6 n32
noncomputable def U32:V:=u6 n32
noncomputable def B32:V:=u8 n32
noncomputable def I33:V:=i6 n33
noncomputable def U33:V:=u6 n33
noncomputable def B33:V:=u8 n33
noncomputable def I34:V:=i6 n34
noncomputable def U34:V:=u6 n34
noncomputable def B34:V:=u8 n34
noncomputable def I35:V:=i6 n35
noncomputable def U35:V:=u6 n35
noncomputable def B35:V:=u8 n35
noncomputable def I36:V:=i6 n36
noncomputable def U36:V:=u6 n36
noncomputable def B36:V:=u8 n36
noncomputable def I37:V:=i6 n37
noncomputable def U37:V:=u6 n37
noncomputable def B37:V:=u8 n37
noncomputable def I38:V:=i6 n38
noncomputable def U38:V:=u6 n38
noncomputable def B38:V:=u8 n38
noncomputable def I39:V:=i6 n39
noncomputable def U39:V:=u6 n39
noncomputable def B39:V:=u8 n39
noncomputable def dw1 (mk:Mk) (bit:Nat) (o:(V→St→R)→R) (K:V→Mk→St→R):R:=o fun v st=>mkA mk bit fun mk=>K v mk st
noncomputable def dwL (n0:Nat) (mk:Mk) (bit pre:Nat) (a:V) (re:V→St→R→R) (o:(V→St→R)→R) (K:V→Mk→St→R):R:=asPtr 63 a fun id _=>iteB (okL mk n0 pre id) (o fun v st=>mkL mk bit id (re v) fun mk=>K v mk st)
 (iteB (okL2 mk n0 pre id) (o fun v st=>lsL pre id (re v) mk.hw (mkL mk bit id (re v) fun mk=>K v mk st)) (.fail 87))
noncomputable def re0:V→St→R→R:=fun _ _ _=>.fail 87
noncomputable def re1 (a v:V):St→R→R:=fun st k=>ld st a fun v'=>twK v v' k
noncomputable def reN (n:Nat) (a v:V):St→R→R:=fun st k=>lN st n a fun v'=>twK v v' k
noncomputable def dw2 (n0:Nat) (mk:Mk) (bit pre:Nat) (a:V) (o:(V→St→R)→R) (K:V→Mk→St→R):R:=dwL n0 mk bit pre a re0 o K
noncomputable def dw2a (n0:Nat) (mk:Mk) (bit pre:Nat) (a:V) (o:(V→St→R)→R) (K:V→Mk→St→R):R:=dwL n0 mk bit pre a re0 o K
noncomputable def dw3 (mk:Mk) (bit pre:Nat) (st:St) (o:St→(V→St→R)→R) (K:V→Mk→St→R):R:=iteB (okH mk pre) (o (setLow st st.next) fun v st'=>heavyK st.next st.low st pre bit mk (fun mk st=>K v mk st) st') (.fail 89)
noncomputable def dw4 (n0:Nat) (mk:Mk) (bit pre:Nat) (a:V) (o:(V→St→R)→R) (K:V→Mk→St→R):R:=asPtr 64 a fun id _=>iteB (okS mk n0 pre id) (o fun v st=>mkS mk bit id fun mk=>K v mk st) (.fail 88)
noncomputable def dw5 (n0:Nat) (mk:Mk) (bit pre:Nat) (st:St) (c:C1) (ρ:Ev) (o:St→(V→St→R)→R) (K:V→Mk→St→R):R :=
 touchOf ρ c fun ids=>iteB (okT mk n0 pre ids) (takeH st.heap ids .leaf fun h=>o ⟨h,st.next,st.low⟩ fun v s=>mergeK st ids s fun st=>mkT mk bit ids fun mk=>K v mk st) (.fail 85)
noncomputable def dL (n0:Nat) (mk:Mk) (bit pre:Nat) (st:St) (a:V) (K:V→Mk→St→R):R:=dwL n0 mk bit pre a (re1 a) (fun q=>ld st a fun v=>q v st) K
noncomputable def dN (n0:Nat) (mk:Mk) (bit pre:Nat) (st:St) (n:Nat) (a:V) (K:V→Mk→St→R):R:=dwL n0 mk bit pre a (reN n a) (fun q=>lN st n a fun v=>q v st) K
noncomputable def dS (n0:Nat) (mk:Mk) (bit pre:Nat) (st:St) (n:Nat) (a x:V) (K:V→Mk→St→R):R:=dw4 n0 mk bit pre a (fun q=>sto st n a x (q undefV)) K
end
section
set_option linter.unusedSectionVars false
variable [LoopP]
open Go.RowKit
def sEq:S→S→Bool
 | .int k n,.int k' n'=>decide (k=k') && decide (n=n')
 | .slice a b c d e,.slice a' b' c' d' e'=>(decide (a=a') && decide (b=b')) && (decide (c=c') && (decide (d=d') && decide (e=e')))
 | .nils,.nils=>true
 | .bool a,.bool b=>decide (a=b)
 | _,_=>false
theorem sEq_of {a b:S} (h:sEq a b=true):a=b:=by
 unfold sEq at h
 split at h
 ·simp only [Bool.and_eq_true,decide_eq_true_eq] at h
  obtain ⟨rfl,rfl⟩:=h;rfl
 ·simp only [Bool.and_eq_true,decide_eq_true_eq] at h
  obtain ⟨⟨rfl,rfl⟩,rfl,rfl,rfl⟩:=h;rfl
 ·rfl
 ·simp only [decide_eq_true_eq] at h
  rw [h]
 ·cases h
def lEq:List S→List S→Bool
 | [],[]=>true
 | a :: l,b :: m=>sEq a b && lEq l m
 | _,_=>false
theorem lEq_of:∀ {a b:List S},lEq a b=true→a=b
 | [],[],_=>rfl
 | [],_ :: _,h=>by cases h
 | _ :: _,[],h=>by cases h
 | a :: l,b :: m,h=>by
  simp only [lEq,Bool.and_eq_true] at h
  rw [sEq_of h.1,lEq_of h.2]
noncomputable def holds1 (h:PM Blk) (p:Nat×List S):Bool:=match h.get p.1 with
 | some b=>match b.k,cellsAt b 0 p.2.length with
  | .no,some c=>lEq c p.2
  | _,_=>false
 | none=>false
noncomputable def holdsAll (h:PM Blk):List (Nat×List S)→Bool
 | []=>true
 | p :: r=>holds1 h p && holdsAll h r
noncomputable def callO (l:List (Nat×List S)) (O:Nat→Option Bool) (call:CallK):CallK:=fun f args st K=>match O f with
 | none=>call f args st K
 | some b=>match args with
  | []=>iteB (holdsAll st.heap l) (K (.sc (.bool b)) st) (.fail 96)
  | _=>.fail 97
noncomputable def runO (l:List (Nat×List S)) (O:Nat→Option Bool) (F:Nat→Option HF) (fuel:Nat):HC→PM V→St→R :=
 Nat.rec (motive:=fun _=>HC→PM V→St→R) (fun _ _ _=>.fail 0) (fun k ih=>step (callO l O (callK F (run F k))) ih) fuel
noncomputable def saysB (b:Bool) (v:V) (st:St):R:=match v with
 | .sc (.bool c)=>iteB (Bool.rec (motive:=fun _=>Bool) (Bool.rec (motive:=fun _=>Bool) true false b) b c) (.done .normal .leaf ⟨.leaf,0,0⟩) (.fail 1)
 | _=>.fail 1
theorem saysB_done {b:Bool}{v:V}{st:St}{x:X}{tf:PM V}{sf:St} (h:saysB b v st=.done x tf sf):v=.sc (.bool b):=by
 unfold saysB at h
 split at h
 ·rename_i c
  obtain ⟨h1,_⟩:=ite_done h
  cases b <;> cases c <;> first | rfl | cases h1
 ·cases h
section
variable {P:Program}{g:Nat}
theorem holdsAll_mem {h:PM Blk}:∀ {l:List (Nat×List S)}{p:Nat×List S},holdsAll h l=true→p∈l→holds1 h p=true
 | [],p,_,hm=>by cases hm
 | q :: r,p,hh,hm=>by
  simp only [holdsAll,Bool.and_eq_true] at hh
  rcases List.mem_cons.1 hm with rfl | hm
  ·exact hh.1
  ·exact holdsAll_mem hh.2 hm
def sLt (nx:Nat):S→Bool
 | .slice id _ _ _ _=>Nat.blt id nx
 | .int _ _=>true
 | .bool _=>true
 | .nils=>true
 | _=>false
def cut (σ:Map) (nx:Nat):Map:=fun i=>if i<nx then σ i else none
theorem relS_only {σ:Map}{nx:Nat}{s:S}{v:Value} (h:sLt nx s=true) (hr:RelS σ s v):RelS (cut σ nx) s v:=by
 cases hr with
 | slice hi h1 h2 h3=>exact .slice (by unfold cut;rw [if_pos (blt_of h)];exact hi) h1 h2 h3
 | int=>exact .int _ _
 | bool=>exact .bool _
 | nils=>exact .nils
 | _=>cases h
def listOk (l:List (Nat×List S)) (nx:Nat):Bool:=l.all fun p=>Nat.blt p.1 nx && p.2.all (sLt nx)
theorem relH_part {σ:Map}{st:St}{w:World}{l:List (Nat×List S)}{nx:Nat} (hr:RelH σ st w) (hh:holdsAll st.heap l=true) (hl:listOk l nx=true):RelH (cut σ nx) (stOf l nx) w:=by
 have hp:∀ p∈l,p.1<nx∧∀ s∈p.2,sLt nx s=true:=fun p hm=>by
  have:=List.all_eq_true.1 hl p hm
  simp only [Bool.and_eq_true] at this
  exact ⟨blt_of this.1,fun s hs=>List.all_eq_true.1 this.2 s hs⟩
 refine ⟨fun id b hb=>?_,fun id id' b b' x y hb hb' _ hown=>?_,fun id b hb=>?_⟩
 ·obtain ⟨c,hm,rfl⟩:=heapOf_get hb
  have h1:=holdsAll_mem hh hm
  unfold holds1 at h1
  split at h1
  ·rename_i b1 hb1
   split at h1
   ·rename_i c1 hk1 hc1
    have he:c1=c:=lEq_of h1
    subst he
    obtain ⟨B,o,n,cells,e,fr,q1,q2,q3,q4,q5,q6⟩:=(hr.blk id b1 hb1).no hk1
    obtain ⟨e1,e2⟩:=cellsAt_get hc1
    refine .of_no rfl ⟨B,o,n,cells,e,fr,by unfold cut;rw [if_pos (hp _ hm).1];exact q1,q2,(fun hw=>by cases hw),q4, ?_,fun i s hs=>?_⟩
    ·show o+c1.length≤n
     rcases Nat.eq_zero_or_pos c1.length with h0 | h0
     ·have:=q5;omega
     ·have:=Blk.cell_lt (e2 (c1.length - 1) (c1[c1.length - 1]'(by omega)) (List.getElem?_eq_getElem (by omega)))
      omega
    ·have hs':=cell_fresh hs
     have h2:=e2 i s hs'
     rw [Nat.zero_add] at h2
     obtain ⟨v,h3,h4⟩:=q6 i s h2
     exact ⟨v,h3,relS_only ((hp _ hm).2 s (List.mem_of_getElem? hs')) h4⟩
   ·cases h1
  ·cases h1
 ·obtain ⟨c,_,rfl⟩:=heapOf_get hb
  obtain ⟨c',_,rfl⟩:=heapOf_get hb'
  rcases hown with hh | hh <;> cases hh
 ·obtain ⟨c,hm,rfl⟩:=heapOf_get hb
  exact (hp _ hm).1
theorem callO_ok {F:Nat→Option HF} (hLP:IsLP P g F) (hm:P.follows .mixedOrders=true) (hF:∀ f cf,F f=some cf→okF P g f cf) {l:List (Nat×List S)}{nx:Nat} (hl:listOk l nx=true) (hg:g≤nx) {O:Nat→Option Bool}
  (hO:∀ f b,O f=some b→f<yBase∧∃ k,callK F (run F k) f [] (stOf l nx) (saysB b)=.done .normal .leaf ⟨.leaf,0,0⟩) (k:Nat):CallOk P g (callO l O (callK F (run F k))):=by
 intro f args st K x tf sf h
 unfold callO at h
 split at h
 ·exact callK_ok hLP hm hF k f args st K x tf sf h
 ·rename_i b hb
  split at h
  ·obtain ⟨hh,h1⟩:=ite_done h
   obtain ⟨hfb,k',hk⟩:=hO f b hb
   obtain ⟨v,st',a1,a2,a345⟩:=callK_ok hLP hm hF k' f [] (stOf l nx) (saysB b) _ _ _ hk
   rcases a345 with ⟨_,a3,a4⟩ | ⟨a5,_⟩
   rotate_left
   ·exact absurd a5 (by omega)
   obtain rfl:=saysB_done a1
   refine ⟨.sc (.bool b),st,h1,Grow.refl st,.inl ⟨hfb,a3,fun σ args' w lim ha hgl hr hfree hlim=>?_⟩⟩
   have ha':All2 (RelV (cut σ nx)) [] args'.toList:=by
    generalize args'.toList=m at ha
    cases ha;exact .nil
   have hc:=a4 (cut σ nx) args' w st'.next ha' (fun i hi=>by obtain ⟨c,hc⟩:=hgl i hi;exact ⟨c,by unfold cut;rw [if_pos (by omega)];exact hc⟩) (relH_part hr hh hl)
    (fun id h1 _=>by
     have h2:nx≤id:=h1
     unfold cut;rw [if_neg (by omega)]) (Nat.le_refl _)
   refine Calls.mono hc fun e w' he=>?_
   obtain ⟨v',σ',he,E,hv⟩:=he
   have hheap:∀ B,B<w.heap.size→w'.heap[B]?=w.heap[B]?:=fun B hB=>E.frame B hB fun id b1 x1 hb1 ho=>by
    obtain ⟨c,_,rfl⟩:=heapOf_get hb1;cases ho
   refine ⟨v',σ,he,⟨Map.le.refl σ,fun _ _=>rfl,Nat.le_refl _,⟨fun id b1 hb1=>?_,hr.inj,hr.lt⟩,E.size,E.os,E.tape,E.output,E.fro,fun B hB _=>hheap B hB,fun _ _ _=>rfl,fun _ _ h=>h,fun id b' _ hb'=>⟨b',hb',rfl⟩,
    fun id b1 x1 hid hb1 _=>absurd (hr.lt id b1 hb1) (by omega),fun id b1 hid hb1=>absurd (hr.lt id b1 hb1) (by omega)⟩, ?_⟩
   ·have hB:=hr.blk id b1 hb1
    obtain ⟨x1,hx1⟩:=hB.map
    exact hB.world hx1 (hheap _ (hB.lt hx1))
   ·cases hv with
    | sc hv=>cases hv;exact .sc (.bool _)
  ·cases h
theorem runO_ok {F:Nat→Option HF} (hLP:IsLP P g F) (hm:P.follows .mixedOrders=true) (hF:∀ f cf,F f=some cf→okF P g f cf) {l:List (Nat×List S)}{nx:Nat} (hl:listOk l nx=true) (hg:g≤nx) {O:Nat→Option Bool}
  (hO:∀ f b,O f=some b→f<yBase∧∃ k,callK F (run F k) f [] (stOf l nx) (saysB b)=.done .normal .leaf ⟨.leaf,0,0⟩):∀ k,CodeOk P g F k (runO l O F k)∧CodeGr P g (runO l O F k)
 | 0=>⟨fun n code i hf hFi L hc e ok hrn tm st x tf sf hI h=>by (cases h),fun n code L hc e tm st x tf sf h=>by (cases h)⟩
 | k+1=>by
  obtain ⟨h1,h2⟩:=runO_ok hLP hm hF hl hg hO k
  have hcall:=callO_ok hLP hm hF hl hg hO k
  exact ⟨fun n code=>code_step hLP hm hcall h1 code,fun n code=>code_grow hm hcall h2 code⟩
omit [LoopP] in
omit [LoopP] in
end
end
end Go.Proofs.YtkneccbdfpnnlaaGreatDoor.Ev
