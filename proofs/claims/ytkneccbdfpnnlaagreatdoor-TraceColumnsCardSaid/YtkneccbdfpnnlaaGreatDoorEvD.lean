/- A logic over the evaluator, and the program's field functions and the sponge's power in it: what each answers, as one step. No conditions but those each lemma states. -/
import Derived.Test.YtkneccbdfpnnlaaGreatDoorEvC
import Derived.Below
import Derived.Carry
import Derived.OpenShut
namespace Go.Proofs.YtkneccbdfpnnlaaGreatDoor.Ev
set_option linter.unusedSimpArgs false
set_option linter.unusedVariables false
section
noncomputable def runC (C:Nat→CallK) (fuel:Nat):HC→PM V→St→R :=
 Nat.rec (motive:=fun _=>HC→PM V→St→R) (fun _ _ _=>.fail 0) (fun k ih=>step (C k) ih) fuel
noncomputable def cF (F:Nat→Option HF):Nat→CallK:=fun k=>callK F (run F k)
noncomputable def cO (l:List (Nat×List S)) (O:Nat→Option Bool) (F:Nat→Option HF):Nat→CallK:=fun k=>callO l O (callK F (run F k))
theorem runC_F (F:Nat→Option HF):∀ k,runC (cF F) k=run F k
 | 0=>rfl
 | k+1=>by
  show step (cF F k) (runC (cF F) k)=step (callK F (run F k)) (run F k)
  rw [runC_F F k];rfl
theorem runC_O (l:List (Nat×List S)) (O:Nat→Option Bool) (F:Nat→Option HF):∀ k,runC (cO l O F) k=runO l O F k
 | 0=>rfl
 | k+1=>by
  show step (cO l O F k) (runC (cO l O F) k)=step (callO l O (callK F (run F k))) (runO l O F k)
  rw [runC_O l O F k];rfl
section
variable {C:Nat→CallK}
def Ca (C:Nat→CallK) (f:Nat) (args:List V) (st:St) (P:V→St→Prop):Prop :=
 ∃ v st',P v st'∧∃ n,∀ m,n≤m→∀ K,C m f args st K=K v st'
def Rg (C:Nat→CallK) (X:CallK→(List V→St→R)→R) (P:List V→St→Prop):Prop :=
 ∃ l st',P l st'∧∃ n,∀ m,n≤m→∀ K,X (C m) K=K l st'
def Ru (C:Nat→CallK) (c:HC) (ρ:Ev) (st:St) (Q:X→Ev→St→Prop):Prop :=
 ∀ tm,rho tm=ρ→∃ x tm' st',Q x (rho tm') st'∧∃ n,∀ m,n≤m→runC C m c tm st=.done x tm' st'
theorem Ca.imp {f:Nat}{args:List V}{st:St}{P P':V→St→Prop} (h:Ca C f args st P) (hp:∀ v s,P v s→P' v s):Ca C f args st P':=by
 obtain ⟨v,s,h1,h2⟩:=h;exact ⟨v,s,hp v s h1,h2⟩
theorem Ru.imp {c:HC}{ρ:Ev}{st:St}{Q Q':X→Ev→St→Prop} (h:Ru C c ρ st Q) (hp:∀ x ρ s,Q x ρ s→Q' x ρ s):Ru C c ρ st Q':=fun tm ht=>by
 obtain ⟨x,t,s,h1,h2⟩:=h tm ht;exact ⟨x,t,s,hp _ _ _ h1,h2⟩
theorem Rg.ret {l:List V}{st:St}{P:List V→St→Prop} (h:P l st):Rg C (fun _ K=>K l st) P:=⟨l,st,h,0,fun _ _ _=>rfl⟩
theorem Rg.call {f:Nat}{args:List V}{st:St}{P1:V→St→Prop}{P:List V→St→Prop}{G:CallK→(List V→St→R)→V→St→R}
  (h:Ca C f args st P1) (hk:∀ v s,P1 v s→Rg C (fun c K=>G c K v s) P):Rg C (fun c K=>c f args st (G c K)) P:=by
 obtain ⟨v,s,h1,n,h2⟩:=h
 obtain ⟨l,s',h3,n',h4⟩:=hk v s h1
 exact ⟨l,s',h3,max n n',fun m hm K=>by show C m f args st (G (C m) K)=_;rw [h2 m (by omega)];exact h4 m (by omega) K⟩
noncomputable def updE:List Pth→List V→Ev→Ev
 | p :: ps,v :: vs,ρ=>updE ps vs (upd ρ p v)
 | _,_,ρ=>ρ
@[simp] theorem updE_nil (vs:List V) (ρ:Ev):updE [] vs ρ=ρ:=rfl
@[simp] theorem updE_cons (p:Pth) (ps:List Pth) (v:V) (vs:List V) (ρ:Ev):updE (p :: ps) (v :: vs) ρ=updE ps vs (upd ρ p v):=rfl
theorem rho_put (p:Pth) (tm:PM V) (v:V):rho (PM.put p tm (some v))=upd (rho tm) p v:=by
 funext q
 by_cases h:q=p
 ·subst h;rw [upd_same];show getD' (PM.getP (PM.put q tm (some v)) q)=v;rw [getP_put_same];rfl
 ·rw [upd_other _ _ h];show getD' (PM.getP (PM.put p tm (some v)) q)=getD' (PM.getP tm q);rw [getP_put_other _ _ _ _ h]
noncomputable def setLp:List Pth→List V→PM V→PM V
 | p :: ps,v :: vs,tm=>setLp ps vs (PM.put p tm (some v))
 | _,_,tm=>tm
theorem setL_eq':∀ (ps:List Pth) (vs:List V) (tm:PM V) (K:PM V→R),setL ps vs tm K=K (setLp ps vs tm)
 | [],_,_,_=>rfl
 | p :: ps,[],tm,K=>rfl
 | p :: ps,v :: vs,tm,K=>by
  show forceV (fun v=>tsetP p tm (some v) fun tm=>setL ps vs tm K) v=_
  rw [forceV_eq,tsetP_eq,setP_put]
  exact setL_eq' ps vs _ K
theorem rho_setLp:∀ (ps:List Pth) (vs:List V) (tm:PM V),rho (setLp ps vs tm)=updE ps vs (rho tm)
 | [],_,_=>rfl
 | _ :: _,[],_=>rfl
 | p :: ps,v :: vs,tm=>by
  show rho (setLp ps vs (PM.put p tm (some v)))=updE ps vs (upd (rho tm) p v)
  rw [rho_setLp,rho_put]
theorem Ru.skip {ρ:Ev}{st:St}{Q:X→Ev→St→Prop} (h:Q .normal ρ st):Ru C .skip ρ st Q:=fun tm ht=>by
 subst ht;exact ⟨.normal,tm,st,h,1,fun m hm=>by obtain ⟨k,rfl⟩:=Nat.exists_eq_add_of_le' hm;rfl⟩
theorem Ru.ret {ρ:Ev}{st:St}{Q:X→Ev→St→Prop} (h:Q .ret ρ st):Ru C .ret ρ st Q:=fun tm ht=>by
 subst ht;exact ⟨.ret,tm,st,h,1,fun m hm=>by obtain ⟨k,rfl⟩:=Nat.exists_eq_add_of_le' hm;rfl⟩
theorem Ru.exit {i:Nat}{ρ:Ev}{st:St}{Q:X→Ev→St→Prop} (h:Q (.exit i) ρ st):Ru C (.exit i) ρ st Q:=fun tm ht=>by
 subst ht;exact ⟨.exit i,tm,st,h,1,fun m hm=>by obtain ⟨k,rfl⟩:=Nat.exists_eq_add_of_le' hm;rfl⟩
theorem Ru.reg {outs:List Pth}{f:RF}{ρ:Ev}{st:St}{Q:X→Ev→St→Prop} (h:Rg C (fun c K=>f c ρ st K) (fun l s=>Q .normal (updE outs l ρ) s)):Ru C (.reg outs f) ρ st Q:=fun tm ht=>by
 subst ht
 obtain ⟨l,s,h1,n,h2⟩:=h
 refine ⟨.normal,setLp outs l tm,s,by rw [rho_setLp];exact h1,n+1,fun m hm=>?_⟩
 obtain ⟨k,rfl⟩:=Nat.exists_eq_add_of_le' (Nat.le_trans (by omega) hm:1≤m)
 exact (h2 k (by omega) (fun l st=>setL outs l tm fun tm=>.done .normal tm st)).trans (setL_eq' outs l tm _)
theorem Ru.drw {outs:List Pth}{f:RF}{ρ:Ev}{st:St}{Q:X→Ev→St→Prop} (h:Rg C (fun c K=>f c ρ st K) (fun l s=>Q .normal (updE outs l ρ) s)):Ru C (.drw outs f) ρ st Q:=fun tm ht=>by
 subst ht
 obtain ⟨l,s,h1,n,h2⟩:=h
 refine ⟨.normal,setLp outs l tm,s,by rw [rho_setLp];exact h1,n+1,fun m hm=>?_⟩
 obtain ⟨k,rfl⟩:=Nat.exists_eq_add_of_le' (Nat.le_trans (by omega) hm:1≤m)
 exact (h2 k (by omega) (fun l st=>setL outs l tm fun tm=>.done .normal tm st)).trans (setL_eq' outs l tm _)
def Then (Q0:Ev→St→Prop) (Q:X→Ev→St→Prop):X→Ev→St→Prop
 | .normal=>Q0
 | .exit i=>Q (.exit i)
 | .ret=>Q .ret
theorem Ru.seq {a b:HC}{ρ:Ev}{st:St}{Q:X→Ev→St→Prop} (h:Ru C a ρ st (Then (fun ρ s=>Ru C b ρ s Q) Q)):Ru C (.seq a b) ρ st Q:=fun tm ht=>by
 obtain ⟨x,t,s,h1,n,h2⟩:=h tm ht
 cases x with
 | normal =>
  obtain ⟨x',t',s',h3,n',h4⟩:=h1 t rfl
  refine ⟨x',t',s',h3,max n n'+1,fun m hm=>?_⟩
  obtain ⟨k,rfl⟩:=Nat.exists_eq_add_of_le' (Nat.le_trans (by omega) hm:1≤m)
  show seq2 (runC C k) b (runC C k a tm st)=_
  rw [h2 k (by omega)]
  exact h4 k (by omega)
 | exit i =>
  refine ⟨.exit i,t,s,h1,n+1,fun m hm=>?_⟩
  obtain ⟨k,rfl⟩:=Nat.exists_eq_add_of_le' (Nat.le_trans (by omega) hm:1≤m)
  show seq2 (runC C k) b (runC C k a tm st)=_
  rw [h2 k (by omega)];rfl
 | ret =>
  refine ⟨.ret,t,s,h1,n+1,fun m hm=>?_⟩
  obtain ⟨k,rfl⟩:=Nat.exists_eq_add_of_le' (Nat.le_trans (by omega) hm:1≤m)
  show seq2 (runC C k) b (runC C k a tm st)=_
  rw [h2 k (by omega)];rfl
theorem Ru.cond {p:Pth}{a b:HC}{ρ:Ev}{st:St}{Q:X→Ev→St→Prop}{t:Bool} (hp:ρ p=.sc (.bool t)) (h1:t=true→Ru C a ρ st Q) (h2:t=false→Ru C b ρ st Q):Ru C (.cond (.t p) a b) ρ st Q:=fun tm ht=>by
 subst ht
 have main:∀ (c:HC),Ru C c (rho tm) st Q→(∀ k,runC C (k+1) (.cond (.t p) a b) tm st=runC C k c tm st)→∃ x tm' st',Q x (rho tm') st'∧∃ n,∀ m,n≤m→runC C m (.cond (.t p) a b) tm st=.done x tm' st':=fun c hc he=>by
  obtain ⟨x,t,s,h1,n,h2⟩:=hc tm rfl
  refine ⟨x,t,s,h1,n+1,fun m hm=>?_⟩
  obtain ⟨k,rfl⟩:=Nat.exists_eq_add_of_le' (Nat.le_trans (by omega) hm:1≤m)
  rw [he];exact h2 k (by omega)
 cases t with
 | true=>exact main a (h1 rfl) fun k=>by show asBool' 95 (rho tm p) (fun c=>iteB c (runC C k a tm st) (runC C k b tm st))=_;rw [hp];rfl
 | false=>exact main b (h2 rfl) fun k=>by show asBool' 95 (rho tm p) (fun c=>iteB c (runC C k a tm st) (runC C k b tm st))=_;rw [hp];rfl
def Out (i:Nat) (Q:X→Ev→St→Prop):X→Ev→St→Prop
 | .normal=>Q .normal
 | .exit j=>if j=i then Q .normal else Q (.exit j)
 | .ret=>Q .ret
theorem Ru.block {i:Nat}{a:HC}{ρ:Ev}{st:St}{Q:X→Ev→St→Prop} (h:Ru C a ρ st (Out i Q)):Ru C (.block i a) ρ st Q:=fun tm ht=>by
 obtain ⟨x,t,s,h1,n,h2⟩:=h tm ht
 have hn:∀ m,n+1≤m→runC C m (.block i a) tm st=block2 i (.done x t s):=fun m hm=>by
  obtain ⟨k,rfl⟩:=Nat.exists_eq_add_of_le' (Nat.le_trans (by omega) hm:1≤m)
  show block2 i (runC C k a tm st)=_
  rw [h2 k (by omega)]
 cases x with
 | normal=>exact ⟨.normal,t,s,h1,n+1,hn⟩
 | ret=>exact ⟨.ret,t,s,h1,n+1,hn⟩
 | exit j =>
  by_cases hj:j=i
  ·subst hj
   simp only [Out,if_true] at h1
   refine ⟨.normal,t,s,h1,n+1,fun m hm=>?_⟩
   rw [hn m hm]
   show iteB (Nat.beq j j) _ _=_
   rw [Nat.beq_refl];rfl
  ·simp only [Out,if_neg hj] at h1
   refine ⟨.exit j,t,s,h1,n+1,fun m hm=>?_⟩
   rw [hn m hm]
   show iteB (Nat.beq j i) _ _=_
   have:Nat.beq j i=false:=by rw [← Bool.not_eq_true];exact fun h=>hj (Nat.eq_of_beq_eq_true h)
   rw [this];rfl
theorem Ru.loop {α:Type} (m:α→Nat) (I:α→Ev→St→Prop) {b:HC}{ρ:Ev}{st:St}{Q:X→Ev→St→Prop}
  (hI:∃ a,I a ρ st) (h:∀ a ρ s,I a ρ s→Ru C b ρ s (Then (fun ρ s=>∃ a',m a'<m a∧I a' ρ s) Q)):Ru C (.loop b) ρ st Q:=by
 obtain ⟨a,ha⟩:=hI
 generalize hk:m a=k
 induction k using Nat.strongRecOn generalizing a ρ st with
 | ind k ih =>
  intro tm ht
  obtain ⟨x,t,s,h1,n,h2⟩:=h a ρ st ha tm ht
  cases x with
  | normal =>
   obtain ⟨a',hlt,ha'⟩:=h1
   obtain ⟨x',t',s',h3,n',h4⟩:=ih (m a') (by omega) a' ha' rfl t rfl
   refine ⟨x',t',s',h3,max n n'+1,fun m hm=>?_⟩
   obtain ⟨k,rfl⟩:=Nat.exists_eq_add_of_le' (Nat.le_trans (by omega) hm:1≤m)
   show seq2 (runC C k) (.loop b) (runC C k b tm st)=_
   rw [h2 k (by omega)]
   exact h4 k (by omega)
  | exit i =>
   refine ⟨.exit i,t,s,h1,n+1,fun m hm=>?_⟩
   obtain ⟨k,rfl⟩:=Nat.exists_eq_add_of_le' (Nat.le_trans (by omega) hm:1≤m)
   show seq2 (runC C k) (.loop b) (runC C k b tm st)=_
   rw [h2 k (by omega)];rfl
  | ret =>
   refine ⟨.ret,t,s,h1,n+1,fun m hm=>?_⟩
   obtain ⟨k,rfl⟩:=Nat.exists_eq_add_of_le' (Nat.le_trans (by omega) hm:1≤m)
   show seq2 (runC C k) (.loop b) (runC C k b tm st)=_
   rw [h2 k (by omega)];rfl
theorem Ru.sreg {outs:List Pth}{f:RF}{b:HC}{ρ:Ev}{st:St}{Q:X→Ev→St→Prop} (h:Rg C (fun c K=>f c ρ st K) (fun l s=>Ru C b (updE outs l ρ) s Q)):Ru C (.seq (.reg outs f) b) ρ st Q:=Ru.seq (Ru.reg h)
theorem Ru.sdrw {outs:List Pth}{f:RF}{b:HC}{ρ:Ev}{st:St}{Q:X→Ev→St→Prop} (h:Rg C (fun c K=>f c ρ st K) (fun l s=>Ru C b (updE outs l ρ) s Q)):Ru C (.seq (.drw outs f) b) ρ st Q:=Ru.seq (Ru.drw h)
@[congr] theorem Rg.congr {X X':CallK→(List V→St→R)→R}{P:List V→St→Prop} (h:∀ c K,X c K=X' c K):Rg C X P=Rg C X' P:=by
 have:X=X':=by funext c K;exact h c K
 rw [this]
@[congr] theorem Ru.congr {c:HC}{ρ ρ':Ev}{st:St}{Q:X→Ev→St→Prop} (h:ρ=ρ'):Ru C c ρ st Q=Ru C c ρ' st Q:=by rw [h]
def ev0:Ev:=fun _=>.any
theorem rho_leaf:rho .leaf=ev0:=by funext q;show getD' (PM.getP .leaf q)=_;rw [getP_leaf];rfl
def resP (rs:List RV) (ρ:Ev) (st:St) (P:V→St→Prop):Prop:=∃ v,P v st∧∀ K tm,rho tm=ρ→resK tm st rs (fin1 K st)=K v st
def Fin (rs:List RV) (P:V→St→Prop):X→Ev→St→Prop
 | .exit _=>fun _ _=>False
 | _=>fun ρ st=>resP rs ρ st P
theorem Ca.of {F:Nat→Option HF}{f:Nat}{hf:HF}{args:List V}{st:St}{P:V→St→Prop} (h0:F f=some hf) (hb:Nat.blt f yBase=true) {b:HC} (as:List Pth) (rs:List RV) (eb:hf.body=b) (ea:hf.args=as) (er:hf.results=rs)
  (h:∀ Q:X→Ev→St→Prop,(∀ ρ s,resP rs ρ s P→Q .ret ρ s)→Ru (cF F) b (updE as args ev0) st Q):Ca (cF F) f args st P:=by
 subst eb;subst ea;subst er
 replace h:=h (Fin hf.results P) (fun ρ s h=>h)
 obtain ⟨x,t,s,h1,n,h2⟩:=h (setLp hf.args args .leaf) (by rw [rho_setLp,rho_leaf])
 have main:(x=.normal∨x=.ret)∧resP hf.results (rho t) s P:=by
  cases x with
  | normal=>exact ⟨.inl rfl,h1⟩
  | ret=>exact ⟨.inr rfl,h1⟩
  | exit i=>exact h1.elim
 obtain ⟨hx,v,hv,hr⟩:=main
 refine ⟨v,s,hv,n,fun m hm K=>?_⟩
 show iteB (Nat.blt f yBase) (Option.rec (motive:=fun _=>R) (.fail 94) (callF (run F m) args st K) (F f)) _=_
 rw [hb,iteB_true,h0]
 show setL hf.args args .leaf (fun tm=>retK hf.results K (run F m hf.body tm st))=_
 rw [setL_eq',← runC_F,h2 m hm]
 rcases hx with rfl | rfl
 ·exact hr K t rfl
 ·exact hr K t rfl
theorem resP.one {p:Pth}{ρ:Ev}{st:St}{P:V→St→Prop}{v:V} (hv:ρ p=v) (h:P v st):resP [.tmp p] ρ st P :=
 ⟨v,h,fun K tm ht=>by show K (rho tm p) st=_;rw [ht,hv]⟩
theorem resP.two {p q:Pth}{ρ:Ev}{st:St}{P:V→St→Prop}{a b:S} (ha:ρ p=.sc a) (hb:ρ q=.sc b) (h:P (.tup [(false,[a]),(false,[b])]) st):resP [.tmp p,.tmp q] ρ st P :=
 ⟨_,h,fun K tm ht=>by show fin1 K st [rho tm p,rho tm q]=_;rw [ht,ha,hb];rfl⟩
theorem Ca.none {F:Nat→Option HF}{l:List (Nat×List S)}{O:Nat→Option Bool}{f:Nat}{args:List V}{st:St}{P:V→St→Prop} (hO:O f=none) (h:Ca (cF F) f args st P):Ca (cO l O F) f args st P:=by
 obtain ⟨v,s,h1,n,h2⟩:=h
 refine ⟨v,s,h1,n,fun m hm K=>?_⟩
 show callO l O (callK F (run F m)) f args st K=_
 unfold callO;rw [hO];exact h2 m hm K
theorem Ca.known {F:Nat→Option HF}{l:List (Nat×List S)}{O:Nat→Option Bool}{f:Nat}{b:Bool}{st:St} (hO:O f=some b) (hh:holdsAll st.heap l=true):Ca (cO l O F) f [] st (fun v s=>v=.sc (.bool b)∧s=st):=by
 refine ⟨_,_,⟨rfl,rfl⟩,0,fun m hm K=>?_⟩
 show callO l O (callK F (run F m)) f [] st K=_
 unfold callO;rw [hO]
 show iteB (holdsAll st.heap l) _ _=_
 rw [hh];rfl
end
end
section
instance noLoops:LoopP:={ rel:=fun _ _ _ _ _=>True,mono:=fun _ _=>trivial,still:=fun _ _ _=>trivial }
variable {st s t:St}{id off i n:Nat}
def is (x:Int):S:=.int .i64 x
def us (n:Nat):S:=.int .u64 (n:Int)
def bs (n:Nat):S:=.int .u8 (n:Int)
abbrev iv (x:Int):V:=.sc (is x)
abbrev uv (x:Nat):V:=.sc (us x)
abbrev bv (x:Nat):V:=.sc (bs x)
abbrev bl (b:Bool):V:=.sc (.bool b)
@[simp] theorem zi_eq:zi=is 0:=rfl
@[simp] theorem zu_eq:zu=us 0:=rfl
@[simp] theorem zb_eq:zb=bs 0:=rfl
@[simp] theorem tt_eq:tt=bl true:=rfl
@[simp] theorem ff_eq:ff=bl false:=rfl
@[simp] theorem upd_at (ρ:Ev) (p:Pth) (v:V):upd ρ p v p=v:=upd_same ρ p v
@[simp] theorem upd_off (ρ:Ev) {p q:Pth} (v:V) (h:pthEq q p=false):upd ρ p v q=ρ q:=by unfold upd;rw [h];rfl
noncomputable def rd (st:St) (id i:Nat):Option S:=(st.heap.get id).bind fun b=>b.cell i
noncomputable def rdN (st:St) (id:Nat):Nat→Nat→Option (List S)
 | _,0=>some []
 | o,n+1=>match rd st id o,rdN st id (o+1) n with | some a,some l=>some (a :: l) | _,_=>none
@[simp] theorem rdN_zero (st:St) (id o:Nat):rdN st id o 0=some []:=rfl
theorem rdN_succ (st:St) (id o n:Nat):rdN st id o (n+1)=match rd st id o,rdN st id (o+1) n with | some a,some l=>some (a :: l) | _,_=>none:=rfl
noncomputable def ldF (st:St) (id a b:Nat):R:=match st.heap.get id with | some _=>.fail a | none=>.fail b
theorem load1K_eq (K:V→R):load1K st id off K=(rd st id off).elim (ldF st id 7 8) (fun x=>K (.sc x)):=by
 unfold load1K rd ldF
 rw [hget_eq]
 cases h:st.heap.get id with
 | none=>rfl
 | some b =>
  show load1B off K b=_
  unfold load1B
  simp only [Option.bind_some]
  cases b.cell off <;> rfl
theorem loadNK_eq (K:V→R):loadNK st (n+1) id off K=(rdN st id off (n+1)).elim (ldF st id 6 8) (fun l=>K (.agg l)):=by
 unfold loadNK
 rw [hget_eq]
 cases h:st.heap.get id with
 | none =>
  have:rdN st id off (n+1)=none:=by rw [rdN_succ];simp [rd,h]
  rw [this];simp [ldF,h]
 | some b =>
  have main:∀ n off,rdN st id off n=cellsAt b off n:=by
   intro n
   induction n with
   | zero=>intro off;rfl
   | succ n ih =>
    intro off
    rw [rdN_succ,ih]
    have hr:rd st id off=b.cell off:=by simp only [rd,h,Option.bind_some]
    rw [hr];show _=(b.cell off).bind fun s=>(cellsAt b (off+1) n).map (s :: ·)
    cases b.cell off <;> cases cellsAt b (off+1) n <;> rfl
  show readK (.fail 6) b (n+1) off (fun l=>K (.agg l))=_
  rw [readK_eq,main]
  cases cellsAt b off (n+1) <;> simp [ldF,h]
@[simp] theorem ld_eq (K:V→R):ld st (.sc (.ptr id off)) K=(rd st id off).elim (ldF st id 7 8) (fun x=>K (.sc x)):=load1K_eq K
@[simp] theorem lN_eq (K:V→R):lN st (n+1) (.sc (.ptr id off)) K=(rdN st id off (n+1)).elim (ldF st id 6 8) (fun l=>K (.agg l)):=loadNK_eq K
@[simp] theorem fad_eq (o:Nat) (K:V→R):fad o (.sc (.ptr id off)) K=K (.sc (.ptr id (off+o))):=by
 show seqN (Nat.add off o) (fun o=>K (.sc (.ptr id o)))=_
 rw [seqN_eq];rfl
@[simp] theorem ixs_eq (z:Nat) {len e:Nat}{cap:Option Nat}{x:Int} (K:V→R) (h:0≤x) (h':x<len):ixs z (.sc (.slice id off len cap e)) (iv x) K=K (.sc (.ptr id (off+x.toNat * z))):=by
 obtain ⟨i,rfl⟩:=Int.eq_ofNat_of_zero_le h
 show iteB (Nat.blt i len) (seqN (Nat.add off (Nat.mul i z)) fun o=>K (.sc (.ptr id o))) (.fail 75)=_
 have:Nat.blt i len=true:=Nat.ble_eq_true_of_le (by omega)
 rw [this,iteB_true,seqN_eq];rfl
@[simp] theorem ixA_eq (len z:Nat) {x:Int} (K:V→R) (h:0≤x) (h':x<len):ixA len z (.sc (.ptr id off)) (iv x) K=K (.sc (.ptr id (off+x.toNat * z))):=by
 obtain ⟨i,rfl⟩:=Int.eq_ofNat_of_zero_le h
 show iteB (Nat.blt i len) (seqN (Nat.add off (Nat.mul i z)) fun o=>K (.sc (.ptr id o))) (.fail 74)=_
 have:Nat.blt i len=true:=Nat.ble_eq_true_of_le (by omega)
 rw [this,iteB_true,seqN_eq];rfl
@[simp] theorem lnS_eq {len e:Nat}{cap:Option Nat} (K:V→R):lnS (.sc (.slice id off len cap e)) K=K (iv len):=rfl
@[simp] theorem lnS_nils (K:V→R):lnS (.sc .nils) K=K (iv 0):=rfl
@[simp] theorem lnS_zn (K:V→R):lnS (.sc zn) K=K (iv 0):=rfl
@[simp] theorem lnS_esl (K:V→R):lnS (.sc .esl) K=K (iv 0):=rfl
theorem bin_eql (k:IntKind) (a b:Int) (K:V→R):binK .eql (.sc (.int k a)) (.sc (.int k b)) K=K (bl (decide (a=b))):=by
 show iteB (Nat.beq (kindN k) (kindN k)) (boolK (intEq a b) K) _=_
 rw [Nat.beq_refl,iteB_true,boolK_eq,intEq_eq];rfl
theorem bin_neq (k:IntKind) (a b:Int) (K:V→R):binK .neq (.sc (.int k a)) (.sc (.int k b)) K=K (bl (decide (a≠b))):=by
 show iteB (Nat.beq (kindN k) (kindN k)) (boolK (not (intEq a b)) K) _=_
 rw [Nat.beq_refl,iteB_true,boolK_eq,intEq_eq]
 congr 2
 by_cases h:a=b <;> simp [h]
theorem bin_lss (k:IntKind) (a b:Int) (K:V→R):binK .lss (.sc (.int k a)) (.sc (.int k b)) K=K (bl (decide (a<b))):=by
 show iteB (Nat.beq (kindN k) (kindN k)) (boolK (intLt a b) K) _=_
 rw [Nat.beq_refl,iteB_true,boolK_eq,intLt_eq]
theorem bin_leq (k:IntKind) (a b:Int) (K:V→R):binK .leq (.sc (.int k a)) (.sc (.int k b)) K=K (bl (decide (a≤b))):=by
 show iteB (Nat.beq (kindN k) (kindN k)) (boolK (intLe a b) K) _=_
 rw [Nat.beq_refl,iteB_true,boolK_eq,intLe_eq]
theorem bin_gtr (k:IntKind) (a b:Int) (K:V→R):binK .gtr (.sc (.int k a)) (.sc (.int k b)) K=K (bl (decide (b<a))):=by
 show iteB (Nat.beq (kindN k) (kindN k)) (boolK (intLt b a) K) _=_
 rw [Nat.beq_refl,iteB_true,boolK_eq,intLt_eq]
theorem bin_geq (k:IntKind) (a b:Int) (K:V→R):binK .geq (.sc (.int k a)) (.sc (.int k b)) K=K (bl (decide (b≤a))):=by
 show iteB (Nat.beq (kindN k) (kindN k)) (boolK (intLe b a) K) _=_
 rw [Nat.beq_refl,iteB_true,boolK_eq,intLe_eq]
theorem bin_add (k:IntKind) (a b:Int) (K:V→R):binK .add (.sc (.int k a)) (.sc (.int k b)) K=K (.sc (.int k (k.wrap (a+b)))):=by
 show iteB (Nat.beq (kindN k) (kindN k)) (intK k (Int.add a b) K) _=_
 rw [Nat.beq_refl,iteB_true,intK_eq];rfl
theorem bin_sub (k:IntKind) (a b:Int) (K:V→R):binK .sub (.sc (.int k a)) (.sc (.int k b)) K=K (.sc (.int k (k.wrap (a - b)))):=by
 show iteB (Nat.beq (kindN k) (kindN k)) (intK k (Int.sub a b) K) _=_
 rw [Nat.beq_refl,iteB_true,intK_eq];rfl
theorem bin_mul (k:IntKind) (a b:Int) (K:V→R):binK .mul (.sc (.int k a)) (.sc (.int k b)) K=K (.sc (.int k (k.wrap (a * b)))):=by
 show iteB (Nat.beq (kindN k) (kindN k)) (intK k (Int.mul a b) K) _=_
 rw [Nat.beq_refl,iteB_true,intK_eq];rfl
theorem bin_rem (k:IntKind) (a b:Nat) (K:V→R) (h:0<b):binK .rem (.sc (.int k (a:Int))) (.sc (.int k (b:Int))) K=K (.sc (.int k ((a % b:Nat):Int))):=by
 show iteB (Nat.beq (kindN k) (kindN k)) (iteB (intEq (b:Int) 0) (.fail 17) (seqI (Int.tmod a b) fun n=>K (.sc (.int k n)))) _=_
 have:intEq (b:Int) 0=false:=by rw [intEq_eq];simp;omega
 rw [Nat.beq_refl,iteB_true,this,iteB_false,seqI_eq]
 congr 3
theorem wrap_u64 {x:Nat} (h:x<18446744073709551616):IntKind.u64.wrap (x:Int)=x:=by
 rw [← wrapF_eq];show iteB (Nat.blt x (lim .u64)) _ _=_
 have:Nat.blt x (lim .u64)=true:=Nat.ble_eq_true_of_le h
 rw [this];rfl
theorem wrap_u8 {x:Nat} (h:x<256):IntKind.u8.wrap (x:Int)=x:=by
 rw [← wrapF_eq];show iteB (Nat.blt x (lim .u8)) _ _=_
 have:Nat.blt x (lim .u8)=true:=Nat.ble_eq_true_of_le h
 rw [this];rfl
theorem wrap_i64 {x:Nat} (h:x<9223372036854775808):IntKind.i64.wrap (x:Int)=x:=by
 rw [← wrapF_eq];show iteB (Nat.blt x (lim .i64)) _ _=_
 have:Nat.blt x (lim .i64)=true:=Nat.ble_eq_true_of_le h
 rw [this];rfl
theorem wrap_i64' {x:Int} (h: -9223372036854775808≤x) (h':x<9223372036854775808):IntKind.i64.wrap x=x:=by
 rw [← wrapF_eq]
 cases x with
 | ofNat n =>
  show iteB (Nat.blt n (lim .i64)) _ _=_
  have:Nat.blt n (lim .i64)=true:=Nat.ble_eq_true_of_le (by simp at h';show n+1≤9223372036854775808;omega)
  rw [this];rfl
 | negSucc n =>
  show iteB (Nat.blt n (limN .i64)) _ _=_
  have:Nat.blt n (limN .i64)=true:=Nat.ble_eq_true_of_le (by show n+1≤9223372036854775808;omega)
  rw [this];rfl
@[simp] theorem ieql (a b:Int) (K:V→R):binK .eql (iv a) (iv b) K=K (bl (decide (a=b))):=bin_eql _ _ _ _
@[simp] theorem ineq (a b:Int) (K:V→R):binK .neq (iv a) (iv b) K=K (bl (decide (a≠b))):=bin_neq _ _ _ _
@[simp] theorem ilss (a b:Int) (K:V→R):binK .lss (iv a) (iv b) K=K (bl (decide (a<b))):=bin_lss _ _ _ _
@[simp] theorem ileq (a b:Int) (K:V→R):binK .leq (iv a) (iv b) K=K (bl (decide (a≤b))):=bin_leq _ _ _ _
@[simp] theorem igtr (a b:Int) (K:V→R):binK .gtr (iv a) (iv b) K=K (bl (decide (b<a))):=bin_gtr _ _ _ _
@[simp] theorem igeq (a b:Int) (K:V→R):binK .geq (iv a) (iv b) K=K (bl (decide (b≤a))):=bin_geq _ _ _ _
@[simp] theorem ueql (a b:Nat) (K:V→R):binK .eql (uv a) (uv b) K=K (bl (decide (a=b))):=by rw [show binK .eql (uv a) (uv b) K=_ from bin_eql _ _ _ _];congr 2;simp only [decide_eq_decide];omega
@[simp] theorem uneq (a b:Nat) (K:V→R):binK .neq (uv a) (uv b) K=K (bl (decide (a≠b))):=by rw [show binK .neq (uv a) (uv b) K=_ from bin_neq _ _ _ _];congr 2;simp only [decide_eq_decide];omega
@[simp] theorem ulss (a b:Nat) (K:V→R):binK .lss (uv a) (uv b) K=K (bl (decide (a<b))):=by rw [show binK .lss (uv a) (uv b) K=_ from bin_lss _ _ _ _];congr 2;simp only [decide_eq_decide];omega
@[simp] theorem uleq (a b:Nat) (K:V→R):binK .leq (uv a) (uv b) K=K (bl (decide (a≤b))):=by rw [show binK .leq (uv a) (uv b) K=_ from bin_leq _ _ _ _];congr 2;simp only [decide_eq_decide];omega
@[simp] theorem ugtr (a b:Nat) (K:V→R):binK .gtr (uv a) (uv b) K=K (bl (decide (b<a))):=by rw [show binK .gtr (uv a) (uv b) K=_ from bin_gtr _ _ _ _];congr 2;simp only [decide_eq_decide];omega
@[simp] theorem ugeq (a b:Nat) (K:V→R):binK .geq (uv a) (uv b) K=K (bl (decide (b≤a))):=by rw [show binK .geq (uv a) (uv b) K=_ from bin_geq _ _ _ _];congr 2;simp only [decide_eq_decide];omega
@[simp] theorem beql (a b:Nat) (K:V→R):binK .eql (bv a) (bv b) K=K (bl (decide (a=b))):=by rw [show binK .eql (bv a) (bv b) K=_ from bin_eql _ _ _ _];congr 2;simp only [decide_eq_decide];omega
@[simp] theorem bneq (a b:Nat) (K:V→R):binK .neq (bv a) (bv b) K=K (bl (decide (a≠b))):=by rw [show binK .neq (bv a) (bv b) K=_ from bin_neq _ _ _ _];congr 2;simp only [decide_eq_decide];omega
@[simp] theorem blss (a b:Nat) (K:V→R):binK .lss (bv a) (bv b) K=K (bl (decide (a<b))):=by rw [show binK .lss (bv a) (bv b) K=_ from bin_lss _ _ _ _];congr 2;simp only [decide_eq_decide];omega
@[simp] theorem bleq (a b:Nat) (K:V→R):binK .leq (bv a) (bv b) K=K (bl (decide (a≤b))):=by rw [show binK .leq (bv a) (bv b) K=_ from bin_leq _ _ _ _];congr 2;simp only [decide_eq_decide];omega
@[simp] theorem bgtr (a b:Nat) (K:V→R):binK .gtr (bv a) (bv b) K=K (bl (decide (b<a))):=by rw [show binK .gtr (bv a) (bv b) K=_ from bin_gtr _ _ _ _];congr 2;simp only [decide_eq_decide];omega
@[simp] theorem bgeq (a b:Nat) (K:V→R):binK .geq (bv a) (bv b) K=K (bl (decide (b≤a))):=by rw [show binK .geq (bv a) (bv b) K=_ from bin_geq _ _ _ _];congr 2;simp only [decide_eq_decide];omega
@[simp] theorem uadd (a b:Nat) (K:V→R) (h:a+b<18446744073709551616):binK .add (uv a) (uv b) K=K (uv (a+b)):=by
 rw [show binK .add (uv a) (uv b) K=_ from bin_add _ _ _ _,← Int.natCast_add,wrap_u64 h];rfl
@[simp] theorem umul (a b:Nat) (K:V→R) (h:a * b<18446744073709551616):binK .mul (uv a) (uv b) K=K (uv (a * b)):=by
 rw [show binK .mul (uv a) (uv b) K=_ from bin_mul _ _ _ _,← Int.natCast_mul,wrap_u64 h];rfl
@[simp] theorem usub (a b:Nat) (K:V→R) (h:b≤a) (h':a<18446744073709551616):binK .sub (uv a) (uv b) K=K (uv (a - b)):=by
 rw [show binK .sub (uv a) (uv b) K=_ from bin_sub _ _ _ _,← Int.natCast_sub h,wrap_u64 (by omega)];rfl
@[simp] theorem urem (a b:Nat) (K:V→R) (h:0<b):binK .rem (uv a) (uv b) K=K (uv (a % b)):=bin_rem _ a b K h
@[simp] theorem iadd (a b:Int) (K:V→R) (h: -9223372036854775808≤a+b) (h':a+b<9223372036854775808):binK .add (iv a) (iv b) K=K (iv (a+b)):=by
 rw [show binK .add (iv a) (iv b) K=_ from bin_add _ _ _ _,wrap_i64' h h'];rfl
@[simp] theorem isub (a b:Int) (K:V→R) (h: -9223372036854775808≤a - b) (h':a - b<9223372036854775808):binK .sub (iv a) (iv b) K=K (iv (a - b)):=by
 rw [show binK .sub (iv a) (iv b) K=_ from bin_sub _ _ _ _,wrap_i64' h h'];rfl
@[simp] theorem nott_eq (b:Bool) (K:V→R):nott (bl b) K=K (bl (!b)):=by cases b <;> rfl
@[simp] theorem pck_true (x y:V) (K:V→R):pck (bl true) x y K=K x:=rfl
@[simp] theorem pck_false (x y:V) (K:V→R):pck (bl false) x y K=K y:=rfl
@[simp] theorem jf_true (o:(V→R)→R) (j:V→St→R):jf (bl true) o st j=j (.tup []) st:=rfl
@[simp] theorem jf_false (o:(V→R)→R) (j:V→St→R):jf (bl false) o st j=o fun v=>j v st:=rfl
@[simp] theorem jt_true (o:(V→R)→R) (j:V→St→R):jt (bl true) o st j=o fun v=>j v st:=rfl
@[simp] theorem jt_false (o:(V→R)→R) (j:V→St→R):jt (bl false) o st j=j (.tup []) st:=rfl
@[simp] theorem mf_true (x:V) (j:V→St→R):mf (bl true) x st j=j (.tup []) st:=rfl
@[simp] theorem mf_false (x:V) (j:V→St→R):mf (bl false) x st j=j x st:=rfl
@[simp] theorem mt_true (x:V) (j:V→St→R):mt (bl true) x st j=j x st:=rfl
@[simp] theorem mt_false (x:V) (j:V→St→R):mt (bl false) x st j=j (.tup []) st:=rfl
@[simp] theorem jn_true (a:(V→St→R)→R) (j:V→St→R):jn true (bl true) a st j=a j:=rfl
@[simp] theorem jn_false (a:(V→St→R)→R) (j:V→St→R):jn true (bl false) a st j=j (.tup []) st:=rfl
@[simp] theorem jn_true' (a:(V→St→R)→R) (j:V→St→R):jn false (bl true) a st j=j (.tup []) st:=rfl
@[simp] theorem jn_false' (a:(V→St→R)→R) (j:V→St→R):jn false (bl false) a st j=a j:=rfl
noncomputable def new (st:St) (l:List S):St:=newBlk st ⟨true,l.length,PM.write l .leaf 0,[],.no⟩
noncomputable def wr (st:St) (id off:Nat) (l:List S):St:=match st.heap.get id with | some b=>putBlk st id (some (wroteBlk b off l)) | none=>st
@[simp] theorem alc_eq (l:List S) (K:V→St→R):alc st l K=K (.sc (.ptr st.next 0)) (new st l):=allocL_eq st l fun id st=>K (.sc (.ptr id 0)) st
@[simp] theorem bxx_sc (x:S) (K:V→St→R):bxx st (.sc x) K=K (.sc (.ptr st.next 0)) (new st [x]):=allocL_eq st [x] fun id st=>K (.sc (.ptr id 0)) st
@[simp] theorem bxx_agg (l:List S) (K:V→St→R):bxx st (.agg l) K=K (.sc (.ptr st.next 0)) (new st l):=allocL_eq st l fun id st=>K (.sc (.ptr id 0)) st
theorem rd_new (l:List S) (id i:Nat):rd (new st l) id i=if id=st.next then l[i]? else rd st id i:=by
 unfold rd new
 rw [newBlk_get]
 by_cases h:id=st.next
 ·rw [if_pos h,if_pos h]
  simp only [Option.bind_some]
  unfold Blk.cell
  simp only
  by_cases hi:i<l.length
  ·have:Nat.blt i l.length=true:=Nat.ble_eq_true_of_le hi
   rw [this,iteB_true]
   show orZ _ i ((PM.write l .leaf 0).get i)=_
   rw [PM.get_write,if_pos ⟨Nat.zero_le _,by omega⟩]
   simp only [Nat.sub_zero]
   rw [List.getElem?_eq_getElem hi];rfl
  ·have:Nat.blt i l.length=false:=by rw [← Bool.not_eq_true];intro hh;exact hi (blt_of hh)
   rw [this,iteB_false]
   rw [List.getElem?_eq_none (by omega)]
 ·rw [if_neg h,if_neg h]
def Own (st:St) (id n:Nat):Prop:=∃ b,st.heap.get id=some b∧b.own=true∧b.n=n
theorem Own.new {l:List S}:Own (new st l) st.next l.length:=⟨_,by unfold Ev.new;rw [newBlk_get,if_pos rfl],rfl,rfl⟩
theorem sto_ok {l:List S} (K:St→R) (h:Own st id n) (hl:off+l.length≤n):storeK st id off l K=K (wr st id off l):=by
 obtain ⟨b,h1,h2,h3⟩:=h
 obtain ⟨bo,bn,bm,bz,bk⟩:=b
 simp only at h2 h3
 subst h2;subst h3
 unfold storeK wr
 rw [h1]
 cases st with
 | mk hp nx lo =>
  have h1':hget hp id=some ⟨true,bn,bm,bz,bk⟩:=h1
  show Option.rec (motive:=fun _=>R) (.fail 3) (storeB nx lo id off l hp K) (hget hp id)=_
  rw [h1']
  show iteB true (iteB (Nat.ble (Nat.add off (lenL l)) bn) (cwriteK l bm off fun m=>hsetK (Nat.succ id) hp id (some ⟨true,bn,m,bz,bk⟩) fun h=>minK lo id fun lo=>K ⟨h,nx,lo⟩) (.fail 2)) (.fail 2)=_
  have:Nat.ble (Nat.add off (lenL l)) bn=true:=by rw [lenL_eq];exact Nat.ble_eq_true_of_le hl
  rw [iteB_true,this,iteB_true,cwriteK_eq',writeK_eq,hsetK_eq',PM.setK_eq,minK_eq]
  rfl
theorem sto_agg {l:List S} (K:St→R) (h:Own st id n) (hl:off+l.length≤n):sto st l.length (.sc (.ptr id off)) (.agg l) K=K (wr st id off l):=by
 show iteB (Nat.beq (lenL l) l.length) (storeK st id off l K) (.fail 64)=_
 rw [lenL_eq,Nat.beq_refl,iteB_true,sto_ok K h hl]
theorem sto_sc {x:S} (K:St→R) (h:Own st id n) (hl:off+1≤n):sto st 1 (.sc (.ptr id off)) (.sc x) K=K (wr st id off [x]):=by
 show iteB (Nat.beq 1 1) (storeK st id off [x] K) (.fail 64)=_
 rw [Nat.beq_refl,iteB_true,sto_ok K h hl]
theorem cell_wrote {b:Blk}{l:List S}{off i:Nat} (hb:off+l.length≤b.n):(wroteBlk b off l).cell i=if off≤i∧i<off+l.length then l[i - off]? else b.cell i:=by
 unfold wroteBlk Blk.cell
 simp only
 by_cases h:off≤i∧i<off+l.length
 ·rw [if_pos h]
  have:Nat.blt i b.n=true:=Nat.ble_eq_true_of_le (by omega)
  rw [this,iteB_true]
  show orZ _ i ((PM.write l b.m off).get i)=_
  rw [PM.get_write,if_pos h,List.getElem?_eq_getElem (by omega)];rfl
 ·rw [if_neg h]
  congr 1
  show orZ _ i ((PM.write l b.m off).get i)=orZ b i (b.m.get i)
  rw [PM.get_write,if_neg h];rfl
theorem rd_wr {l:List S} (h:Own st id n) (hl:off+l.length≤n) (id' i:Nat):rd (wr st id off l) id' i=if id'=id∧off≤i∧i<off+l.length then l[i - off]? else rd st id' i:=by
 obtain ⟨b,h1,h2,h3⟩:=h
 unfold rd wr
 rw [h1]
 simp only
 rw [putBlk_get]
 by_cases hi:id'=id
 ·subst hi
  rw [if_pos rfl]
  simp only [Option.bind_some,true_and,h1]
  exact cell_wrote (by omega)
 ·rw [if_neg hi];simp [hi]
theorem Own.wr {l:List S}{id' m:Nat} (h:Own st id' m):Own (wr st id off l) id' m:=by
 obtain ⟨b,h1,h2,h3⟩:=h
 unfold Ev.wr
 split
 ·rename_i b' hb'
  unfold Own
  rw [putBlk_get]
  by_cases hi:id'=id
  ·subst hi;rw [if_pos rfl]
   rw [h1] at hb';cases hb'
   exact ⟨_,rfl,h2,h3⟩
  ·rw [if_neg hi];exact ⟨b,h1,h2,h3⟩
 ·exact ⟨b,h1,h2,h3⟩
structure Fr (s t:St):Prop where
 next:s.next≤t.next
 old:∀ id b,s.heap.get id=some b→t.heap.get id=some b
 low:min s.low s.next≤t.low
 low':t.low≤s.low
 wf:WfS t
theorem Fr.refl (h:WfS s):Fr s s:=⟨Nat.le_refl _,fun _ _ h=>h,Nat.min_le_left _ _,Nat.le_refl _,h⟩
theorem Fr.trans {u:St} (h:Fr s t) (k:Fr t u):Fr s u :=
 ⟨Nat.le_trans h.next k.next,fun id b hb=>k.old id b (h.old id b hb),by have:=h.low;have:=k.low;have:=h.next;omega,Nat.le_trans k.low' h.low',k.wf⟩
theorem Fr.rd (h:Fr s t) {x:S} (hx:rd s id i=some x):rd t id i=some x:=by
 unfold Ev.rd at *
 cases hb:s.heap.get id with
 | none=>rw [hb] at hx;cases hx
 | some b=>rw [hb] at hx;rw [h.old id b hb];exact hx
theorem Fr.new (h:Fr s t) (l:List S):Fr s (new t l):=by
 have hf:=h.wf t.next (Nat.le_refl _)
 refine ⟨Nat.le_trans h.next (Nat.le_succ _),fun id b hb=>?_,h.low,h.low',fun id hid=>?_⟩
 ·unfold Ev.new
  rw [newBlk_get,if_neg]
  ·exact h.old id b hb
  ·intro he;subst he;have:=h.old _ b hb;rw [hf] at this;cases this
 ·unfold Ev.new at hid ⊢
  have h2:t.next+1≤id:=hid
  rw [newBlk_get,if_neg (by omega)]
  exact h.wf id (by omega)
theorem Fr.wr (h:Fr s t) (hid:s.next≤id) (hs:s.heap.get id=none) (l:List S):Fr s (wr t id off l):=by
 unfold Ev.wr
 split
 ·rename_i b hb
  refine ⟨h.next,fun id' b' hb'=>?_, ?_, ?_,fun id' hid'=>?_⟩
  ·rw [putBlk_get,if_neg]
   ·exact h.old id' b' hb'
   ·intro he;subst he;rw [hs] at hb';cases hb'
  ·show min s.low s.next≤min t.low id
   have:=h.low;omega
  ·show min t.low id≤s.low
   have:=h.low';omega
  ·have hid2:t.next≤id':=hid'
   rw [putBlk_get,if_neg]
   ·exact h.wf id' hid2
   ·intro he;subst he;rw [h.wf _ hid2] at hb;cases hb
 ·exact h
theorem Fr.lt (h:WfS s) {x:S} (hx:Ev.rd s id i=some x):id<s.next:=by
 refine Classical.byContradiction fun hh=>?_
 unfold Ev.rd at hx
 rw [h id (by omega)] at hx;cases hx
theorem fr_mk (h:WfS s) (z l:List S):Fr s (wr (new s z) s.next 0 l):=((Fr.refl h).new z).wr (Nat.le_refl _) (h _ (Nat.le_refl _)) l
@[simp] theorem sto_new {z l:List S} (K:St→R) (h1:l.length=n) (h2:z.length=n):sto (new st z) n (.sc (.ptr st.next 0)) (.agg l) K=K (wr (new st z) st.next 0 l):=by
 subst h1
 exact sto_agg K Own.new (by omega)
theorem rd_mk {z l:List S} (h:l.length=z.length) (id i:Nat):rd (wr (new st z) st.next 0 l) id i=if id=st.next then l[i]? else rd st id i:=by
 rw [rd_wr (Own.new (st:=st) (l:=z)) (by omega),rd_new]
 by_cases hi:id=st.next
 ·simp only [hi,if_true,true_and,Nat.zero_le,Nat.zero_add,Nat.sub_zero]
  by_cases h2:i<l.length
  ·rw [if_pos h2]
  ·rw [if_neg h2,List.getElem?_eq_none (by omega),List.getElem?_eq_none (by omega)]
 ·simp [hi]
@[simp] theorem next_mk {z l:List S}:(wr (new st z) st.next 0 l).next=st.next+1:=by
 unfold wr;split <;> rfl
@[simp] theorem next_new {z:List S}:(new st z).next=st.next+1:=rfl
theorem rdN_get {st:St}{id:Nat}:∀ {n o:Nat}{l:List S},l.length=n→(∀ i x,l[i]?=some x→rd st id (o+i)=some x)→rdN st id o n=some l
 | 0,o,[],_,_=>rfl
 | n+1,o,[],h,_=>by cases h
 | 0,o,_ :: _,h,_=>by cases h
 | n+1,o,a :: l,h,hr=>by
  have h0:=hr 0 a rfl
  rw [Nat.add_zero] at h0
  rw [rdN_succ,h0,rdN_get (n:=n) (by simpa using h) (fun i x hx=>by have:=hr (i+1) x (by simpa using hx);rw [← this];congr 1;omega)]
theorem rdN_mk {z l:List S} (h:l.length=z.length) (hn:l.length=n):rdN (wr (new st z) st.next 0 l) st.next 0 n=some l :=
 rdN_get hn fun i x hx=>by rw [Nat.zero_add,rd_mk h,if_pos rfl,hx]
theorem Fr.setLow {h:WfS s} (k:Fr (setLow s s.next) t):Fr s ⟨t.heap,t.next,s.low⟩:=by
 have h1:s.next≤t.low:=by have:=k.low;simpa [Ev.setLow] using this
 cases s with
 | mk hp nx lo=>exact ⟨k.next,k.old,Nat.min_le_left _ _,Nat.le_refl _,k.wf⟩
theorem wf_setLow {h:WfS s}:WfS (setLow s s.next):=by cases s;exact h
theorem Rg.dw3 {C:Nat→CallK}{m:Mk}{bit pre f:Nat}{args:List V}{P1:V→Prop}{P:List V→St→Prop}{G:CallK→(List V→St→R)→V→Mk→St→R} (hw:WfS s) (hk:okH m pre=true)
  (h:Ca C f args (setLow s s.next) (fun v s'=>Fr (setLow s s.next) s'∧P1 v)) (k:∀ v s',Fr s s'→P1 v→Rg C (fun c K=>mkH m bit fun mk=>G c K v mk s') P):Rg C (fun c K=>Ev.dw3 m bit pre s (fun s q=>c f args s q) (G c K)) P:=by
 obtain ⟨v,s',⟨h1,h1'⟩,n,h2⟩:=h
 have hF:=Fr.setLow (h:=hw) h1
 obtain ⟨l,s2,h3,n',h4⟩:=k v _ hF h1'
 refine ⟨l,s2,h3,max n n',fun x hx K=>?_⟩
 show iteB (okH m pre) (C x f args (setLow s s.next) fun v st'=>heavyK s.next s.low s pre bit m (fun mk st=>G (C x) K v mk st) st') (.fail 89)=_
 rw [hk,iteB_true,h2 x (by omega)]
 have hl:s.next≤s'.low:=by have:=h1.low;cases s;simpa [Ev.setLow] using this
 rw [← h4 x (by omega) K]
 cases s' with
 | mk hp nx lo =>
  show iteB (Nat.blt lo s.next) _ (mkH m bit fun mk=>G (C x) K v mk ⟨hp,nx,s.low⟩)=_
  have:Nat.blt lo s.next=false:=by rw [← Bool.not_eq_true];intro hh;have:=blt_of hh;simp at hl;omega
  rw [this];rfl
@[simp] theorem mk0_eq:mk0=⟨0,0,0,0,[],[],[]⟩:=rfl
end
section
@[simp] theorem I0_eq:I0=iv 0:=rfl
@[simp] theorem U0_eq:U0=uv 0:=rfl
@[simp] theorem B0_eq:B0=bv 0:=rfl
@[simp] theorem I1_eq:I1=iv 1:=rfl
@[simp] theorem U1_eq:U1=uv 1:=rfl
@[simp] theorem B1_eq:B1=bv 1:=rfl
@[simp] theorem I2_eq:I2=iv 2:=rfl
@[simp] theorem U2_eq:U2=uv 2:=rfl
@[simp] theorem B2_eq:B2=bv 2:=rfl
@[simp] theorem I3_eq:I3=iv 3:=rfl
@[simp] theorem B3_eq:B3=bv 3:=rfl
@[simp] theorem I4_eq:I4=iv 4:=rfl
@[simp] theorem B4_eq:B4=bv 4:=rfl
@[simp] theorem I5_eq:I5=iv 5:=rfl
@[simp] theorem U5_eq:U5=uv 5:=rfl
@[simp] theorem B5_eq:B5=bv 5:=rfl
@[simp] theorem I6_eq:I6=iv 6:=rfl
@[simp] theorem B6_eq:B6=bv 6:=rfl
@[simp] theorem I7_eq:I7=iv 7:=rfl
@[simp] theorem U7_eq:U7=uv 7:=rfl
@[simp] theorem B7_eq:B7=bv 7:=rfl
@[simp] theorem I8_eq:I8=iv 8:=rfl
@[simp] theorem U8_eq:U8=uv 8:=rfl
@[simp] theorem B8_eq:B8=bv 8:=rfl
@[simp] theorem I9_eq:I9=iv 9:=rfl
@[simp] theorem I11_eq:I11=iv 11:=rfl
@[simp] theorem I12_eq:I12=iv 12:=rfl
@[simp] theorem B12_eq:B12=bv 12:=rfl
@[simp] theorem I13_eq:I13=iv 13:=rfl
@[simp] theorem U13_eq:U13=uv 13:=rfl
@[simp] theorem B15_eq:B15=bv 15:=rfl
@[simp] theorem I16_eq:I16=iv 16:=rfl
@[simp] theorem U16_eq:U16=uv 16:=rfl
@[simp] theorem B16_eq:B16=bv 16:=rfl
@[simp] theorem I17_eq:I17=iv 17:=rfl
@[simp] theorem U17_eq:U17=uv 17:=rfl
@[simp] theorem I21_eq:I21=iv 21:=rfl
@[simp] theorem I22_eq:I22=iv 22:=rfl
@[simp] theorem I23_eq:I23=iv 23:=rfl
@[simp] theorem I24_eq:I24=iv 24:=rfl
@[simp] theorem I25_eq:I25=iv 25:=rfl
@[simp] theorem I26_eq:I26=iv 26:=rfl
@[simp] theorem I27_eq:I27=iv 27:=rfl
@[simp] theorem I28_eq:I28=iv 28:=rfl
@[simp] theorem I29_eq:I29=iv 29:=rfl
@[simp] theorem I30_eq:I30=iv 30:=rfl
@[simp] theorem I31_eq:I31=iv 31:=rfl
@[simp] theorem I32_eq:I32=iv 32:=rfl
@[simp] theorem U32_eq:U32=uv 32:=rfl
@[simp] theorem I33_eq:I33=iv 33:=rfl
@[simp] theorem I34_eq:I34=iv 34:=rfl
@[simp] theorem I35_eq:I35=iv 35:=rfl
@[simp] theorem I36_eq:I36=iv 36:=rfl
@[simp] theorem I37_eq:I37=iv 37:=rfl
@[simp] theorem I38_eq:I38=iv 38:=rfl
@[simp] theorem I39_eq:I39=iv 39:=rfl
@[simp] theorem n0_eq:n0=0:=rfl
@[simp] theorem n1_eq:n1=1:=rfl
@[simp] theorem n2_eq:n2=2:=rfl
@[simp] theorem n3_eq:n3=3:=rfl
@[simp] theorem n4_eq:n4=4:=rfl
@[simp] theorem n5_eq:n5=5:=rfl
@[simp] theorem n6_eq:n6=6:=rfl
@[simp] theorem n7_eq:n7=7:=rfl
@[simp] theorem n8_eq:n8=8:=rfl
@[simp] theorem n9_eq:n9=9:=rfl
@[simp] theorem n10_eq:n10=10:=rfl
@[simp] theorem n11_eq:n11=11:=rfl
@[simp] theorem n12_eq:n12=12:=rfl
@[simp] theorem n13_eq:n13=13:=rfl
@[simp] theorem n14_eq:n14=14:=rfl
@[simp] theorem n15_eq:n15=15:=rfl
@[simp] theorem n16_eq:n16=16:=rfl
@[simp] theorem n17_eq:n17=17:=rfl
@[simp] theorem n18_eq:n18=18:=rfl
@[simp] theorem n19_eq:n19=19:=rfl
@[simp] theorem n20_eq:n20=20:=rfl
@[simp] theorem n21_eq:n21=21:=rfl
@[simp] theorem n22_eq:n22=22:=rfl
@[simp] theorem n23_eq:n23=23:=rfl
@[simp] theorem n24_eq:n24=24:=rfl
@[simp] theorem n25_eq:n25=25:=rfl
@[simp] theorem n26_eq:n26=26:=rfl
@[simp] theorem n27_eq:n27=27:=rfl
@[simp] theorem n28_eq:n28=28:=rfl
@[simp] theorem n29_eq:n29=29:=rfl
@[simp] theorem n30_eq:n30=30:=rfl
@[simp] theorem n31_eq:n31=31:=rfl
@[simp] theorem n32_eq:n32=32:=rfl
@[simp] theorem n33_eq:n33=33:=rfl
@[simp] theorem n34_eq:n34=34:=rfl
@[simp] theorem n35_eq:n35=35:=rfl
@[simp] theorem n36_eq:n36=36:=rfl
@[simp] theorem n37_eq:n37=37:=rfl
@[simp] theorem n38_eq:n38=38:=rfl
@[simp] theorem n39_eq:n39=39:=rfl
@[simp] theorem n40_eq:n40=40:=rfl
@[simp] theorem n41_eq:n41=41:=rfl
@[simp] theorem n42_eq:n42=42:=rfl
@[simp] theorem n43_eq:n43=43:=rfl
@[simp] theorem n44_eq:n44=44:=rfl
@[simp] theorem n45_eq:n45=45:=rfl
@[simp] theorem n46_eq:n46=46:=rfl
@[simp] theorem n47_eq:n47=47:=rfl
@[simp] theorem n48_eq:n48=48:=rfl
@[simp] theorem n49_eq:n49=49:=rfl
@[simp] theorem n50_eq:n50=50:=rfl
@[simp] theorem n51_eq:n51=51:=rfl
@[simp] theorem n52_eq:n52=52:=rfl
@[simp] theorem n53_eq:n53=53:=rfl
@[simp] theorem n54_eq:n54=54:=rfl
@[simp] theorem n55_eq:n55=55:=rfl
@[simp] theorem n56_eq:n56=56:=rfl
@[simp] theorem n57_eq:n57=57:=rfl
@[simp] theorem n58_eq:n58=58:=rfl
@[simp] theorem n59_eq:n59=59:=rfl
@[simp] theorem n60_eq:n60=60:=rfl
@[simp] theorem n61_eq:n61=61:=rfl
@[simp] theorem n62_eq:n62=62:=rfl
@[simp] theorem n63_eq:n63=63:=rfl
@[simp] theorem n64_eq:n64=64:=rfl
@[simp] theorem n65_eq:n65=65:=rfl
@[simp] theorem n66_eq:n66=66:=rfl
@[simp] theorem n67_eq:n67=67:=rfl
@[simp] theorem n68_eq:n68=68:=rfl
@[simp] theorem n69_eq:n69=69:=rfl
@[simp] theorem n70_eq:n70=70:=rfl
@[simp] theorem n71_eq:n71=71:=rfl
@[simp] theorem n72_eq:n72=72:=rfl
@[simp] theorem n73_eq:n73=73:=rfl
@[simp] theorem n74_eq:n74=74:=rfl
@[simp] theorem n75_eq:n75=75:=rfl
@[simp] theorem n76_eq:n76=76:=rfl
@[simp] theorem n77_eq:n77=77:=rfl
@[simp] theorem n78_eq:n78=78:=rfl
@[simp] theorem n79_eq:n79=79:=rfl
@[simp] theorem n80_eq:n80=80:=rfl
@[simp] theorem n81_eq:n81=81:=rfl
@[simp] theorem n82_eq:n82=82:=rfl
@[simp] theorem n83_eq:n83=83:=rfl
@[simp] theorem n84_eq:n84=84:=rfl
@[simp] theorem n85_eq:n85=85:=rfl
@[simp] theorem n86_eq:n86=86:=rfl
@[simp] theorem n87_eq:n87=87:=rfl
@[simp] theorem n88_eq:n88=88:=rfl
@[simp] theorem n89_eq:n89=89:=rfl
@[simp] theorem n90_eq:n90=90:=rfl
@[simp] theorem n91_eq:n91=91:=rfl
@[simp] theorem n92_eq:n92=92:=rfl
@[simp] theorem n93_eq:n93=93:=rfl
@[simp] theorem n94_eq:n94=94:=rfl
@[simp] theorem n95_eq:n95=95:=rfl
@[simp] theorem n96_eq:n96=96:=rfl
@[simp] theorem n97_eq:n97=97:=rfl
@[simp] theorem n98_eq:n98=98:=rfl
@[simp] theorem n99_eq:n99=99:=rfl
@[simp] theorem n100_eq:n100=100:=rfl
@[simp] theorem n101_eq:n101=101:=rfl
@[simp] theorem n102_eq:n102=102:=rfl
@[simp] theorem n103_eq:n103=103:=rfl
@[simp] theorem n104_eq:n104=104:=rfl
@[simp] theorem n105_eq:n105=105:=rfl
@[simp] theorem n106_eq:n106=106:=rfl
@[simp] theorem n107_eq:n107=107:=rfl
@[simp] theorem n108_eq:n108=108:=rfl
@[simp] theorem n109_eq:n109=109:=rfl
@[simp] theorem n110_eq:n110=110:=rfl
@[simp] theorem n111_eq:n111=111:=rfl
@[simp] theorem n112_eq:n112=112:=rfl
@[simp] theorem n120_eq:n120=120:=rfl
@[simp] theorem n124_eq:n124=124:=rfl
@[simp] theorem n127_eq:n127=127:=rfl
@[simp] theorem n128_eq:n128=128:=rfl
theorem resP.cellN {p:Pth}{ρ:Ev}{st:St}{P:V→St→Prop}{n id off:Nat}{l:List S} (hv:ρ p=.sc (.ptr id off)) (hl:rdN st id off (n+1)=some l) (h:P (.agg l) st):resP [.cellN (n+1) p] ρ st P :=
 ⟨_,h,fun K tm ht=>by
  show asPtr 91 (rho tm p) (fun id off=>loadNK st (n+1) id off fun v=>fin1 K st [v])=_
  rw [ht,hv]
  show loadNK st (n+1) id off (fun v=>fin1 K st [v])=_
  rw [loadNK_eq,hl];rfl⟩
@[simp] theorem stoN2 {st:St}{z0 z1 x0 x1:S} (K:St→R):sto (new st [z0,z1]) 2 (.sc (.ptr st.next 0)) (.agg [x0,x1]) K=K (wr (new st [z0,z1]) st.next 0 [x0,x1]):=sto_new K rfl rfl
@[simp] theorem stoN3 {st:St}{z0 z1 z2 x0 x1 x2:S} (K:St→R):sto (new st [z0,z1,z2]) 3 (.sc (.ptr st.next 0)) (.agg [x0,x1,x2]) K=K (wr (new st [z0,z1,z2]) st.next 0 [x0,x1,x2]):=sto_new K rfl rfl
@[simp] theorem stoN4 {st:St}{z0 z1 z2 z3 x0 x1 x2 x3:S} (K:St→R):sto (new st [z0,z1,z2,z3]) 4 (.sc (.ptr st.next 0)) (.agg [x0,x1,x2,x3]) K=K (wr (new st [z0,z1,z2,z3]) st.next 0 [x0,x1,x2,x3]):=sto_new K rfl rfl
@[simp] theorem stoN5 {st:St}{z0 z1 z2 z3 z4 x0 x1 x2 x3 x4:S} (K:St→R):sto (new st [z0,z1,z2,z3,z4]) 5 (.sc (.ptr st.next 0)) (.agg [x0,x1,x2,x3,x4]) K=K (wr (new st [z0,z1,z2,z3,z4]) st.next 0 [x0,x1,x2,x3,x4]):=sto_new K rfl rfl
@[simp] theorem stoN6 {st:St}{z0 z1 z2 z3 z4 z5 x0 x1 x2 x3 x4 x5:S} (K:St→R):sto (new st [z0,z1,z2,z3,z4,z5]) 6 (.sc (.ptr st.next 0)) (.agg [x0,x1,x2,x3,x4,x5]) K=K (wr (new st [z0,z1,z2,z3,z4,z5]) st.next 0 [x0,x1,x2,x3,x4,x5]):=sto_new K rfl rfl
@[simp] theorem stoN7 {st:St}{z0 z1 z2 z3 z4 z5 z6 x0 x1 x2 x3 x4 x5 x6:S} (K:St→R):sto (new st [z0,z1,z2,z3,z4,z5,z6]) 7 (.sc (.ptr st.next 0)) (.agg [x0,x1,x2,x3,x4,x5,x6]) K=K (wr (new st [z0,z1,z2,z3,z4,z5,z6]) st.next 0 [x0,x1,x2,x3,x4,x5,x6]):=sto_new K rfl rfl
@[simp] theorem stoN8 {st:St}{z0 z1 z2 z3 z4 z5 z6 z7 x0 x1 x2 x3 x4 x5 x6 x7:S} (K:St→R):sto (new st [z0,z1,z2,z3,z4,z5,z6,z7]) 8 (.sc (.ptr st.next 0)) (.agg [x0,x1,x2,x3,x4,x5,x6,x7]) K=K (wr (new st [z0,z1,z2,z3,z4,z5,z6,z7]) st.next 0 [x0,x1,x2,x3,x4,x5,x6,x7]):=sto_new K rfl rfl
end
section
noncomputable def hValid:HF:=⟨
(.seq (.reg [q2] fun c r s K=>K [ff] s)
 (.seq (.reg [q2] fun c r s K=>binK .geq (r q0) I0 fun v0=>mt v0 (r q0) s fun v1 s=>jt v0 (binK .lss v1 I4) s fun v2 s=>pck v0 v2 ff fun v3=>K [v3] s)
 .ret)),[(.tmp q2)],[q0],[q3,q4,q5,q6,q7,q8]⟩
noncomputable def hOf (v g:Nat):HF:=⟨
(.seq (.reg [q2] fun c r s K=>alc s [zu,zu,zi,zi,zn] fun v0 s=>K [v0] s)
 (.seq (.seq (.reg [q5] fun c r s K=>c v [(r q0)] s fun v0 s=>nott v0 fun v1=>K [v1] s)
 (.cond (.t q5) (.seq (.reg [] fun c r s K=>h_op3_build [zu,zu,zi,zi,zn] [] c r s fun v0 s=>sto s n5 (r q2) v0 fun s=>K [] s)
 .ret)
 .skip))
 (.seq (.reg [] fun c r s K=>ixA n4 n5 (.sc (.ptr g n0)) (r q0) fun v0=>lN s n5 v0 fun v1=>sto s n5 (r q2) v1 fun s=>K [] s)
 .ret))),[(.cellN n5 q2)],[q0],[q3,q4,q6,q7,q8,q9]⟩
noncomputable def hP (o:Nat):HF:=⟨
(.seq (.reg [q2] fun c r s K=>K [U0] s)
 (.seq (.reg [q2] fun c r s K=>c o [(r q0)] s fun v0 s=>fld n0 n1 false v0 fun v1=>K [v1] s)
 .ret)),[(.tmp q2)],[q0],[q3,q4,q5]⟩
noncomputable def hAdd (p:Nat):HF:=⟨
(.seq (.reg [q6] fun c r s K=>K [U0] s)
 (.seq (.reg [q7] fun c r s K=>c p [(r q0)] s fun v0 s=>K [v0] s)
 (.seq (.seq (.reg [q12] fun c r s K=>binK .eql (r q7) U0 fun v0=>K [v0] s)
 (.cond (.t q12) (.seq (.reg [q6] fun c r s K=>K [U0] s)
 .ret)
 .skip))
 (.seq (.drw [q8] fun c r s K=>(fun z m=>binK .rem (r q1) (r q7) fun v0=>binK .rem (r q2) (r q7) fun v1=>binK .add v0 v1 fun v2=>K [v2] s) s.next mk0)
 (.seq (.seq (.reg [q22] fun c r s K=>binK .geq (r q8) (r q7) fun v0=>K [v0] s)
 (.cond (.t q22) (.reg [q8] fun c r s K=>binK .sub (r q8) (r q7) fun v0=>K [v0] s)
 .skip))
 (.seq (.reg [q6] fun c r s K=>K [(r q8)] s)
 .ret)))))),[(.tmp q6)],[q0,q1,q2],[q9,q10,q11,q13,q14,q15,q16,q17,q18,q19,q20,q21,q23,q24,q25,q26]⟩
noncomputable def hMul (p:Nat):HF:=⟨
(.seq (.reg [q6] fun c r s K=>K [U0] s)
 (.seq (.reg [q7] fun c r s K=>c p [(r q0)] s fun v0 s=>K [v0] s)
 (.seq (.seq (.reg [q11] fun c r s K=>binK .eql (r q7) U0 fun v0=>K [v0] s)
 (.cond (.t q11) (.seq (.reg [q6] fun c r s K=>K [U0] s)
 .ret)
 .skip))
 (.seq (.drw [q6] fun c r s K=>(fun z m=>binK .rem (r q1) (r q7) fun v0=>binK .rem (r q2) (r q7) fun v1=>binK .mul v0 v1 fun v2=>binK .rem v2 (r q7) fun v3=>K [v3] s) s.next mk0)
 .ret)))),[(.tmp q6)],[q0,q1,q2],[q8,q9,q10,q12,q13,q14,q15,q16,q17,q18,q19,q20]⟩
noncomputable def hNeg (p:Nat):HF:=⟨
(.seq (.reg [q4] fun c r s K=>K [U0] s)
 (.seq (.reg [q5] fun c r s K=>c p [(r q0)] s fun v0 s=>K [v0] s)
 (.seq (.seq (.reg [q15] fun c r s K=>binK .eql (r q5) U0 fun v0=>mf v0 (r q1) s fun v1 s=>mf v0 (r q5) s fun v2 s=>jf v0 (binK .rem v1 v2) s fun v3 s=>jf v0 (binK .eql v3 U0) s fun v4 s=>pck v0 tt v4 fun v5=>K [v5] s)
 (.cond (.t q15) (.seq (.reg [q4] fun c r s K=>K [U0] s)
 .ret)
 .skip))
 (.seq (.reg [q4] fun c r s K=>binK .rem (r q1) (r q5) fun v0=>binK .sub (r q5) v0 fun v1=>K [v1] s)
 .ret)))),[(.tmp q4)],[q0,q1],[q6,q7,q8,q9,q10,q11,q12,q13,q14,q16,q17,q18,q19,q20]⟩
noncomputable def hSub (n a:Nat):HF:=⟨
(.seq (.reg [q6] fun c r s K=>K [U0] s)
 (.seq (.reg [q6] fun c r s K=>c n [(r q0),(r q2)] s fun v0 s=>c a [(r q0),(r q1),v0] s fun v1 s=>K [v1] s)
 .ret)),[(.tmp q6)],[q0,q1,q2],[q7,q8,q9,q10,q11,q12]⟩
variable {F:Nat→Option HF}{v o p a m n g x P A B:Nat}{st:St}{l:List S}
theorem fValid (hv:F v=some hValid) (bv:Nat.blt v yBase=true) (x:Int) (st:St):Ca (cF F) v [iv x] st (fun v s=>v=bl (decide (0≤x∧x<4))∧s=st):=by
 refine Ca.of hv bv [q0] [.tmp q2] rfl rfl rfl fun Q hQ=>?_
 refine Ru.sreg (Rg.ret ?_)
 refine Ru.sreg ?_
 simp (disch:=first|decide|omega)
 by_cases h:0≤x
 ·simp [h]
  refine Rg.ret (Ru.ret (hQ _ _ (.one rfl ?_)))
  simp [h]
 ·simp [h]
  refine Rg.ret (Ru.ret (hQ _ _ (.one rfl ?_)))
  simp [h]
theorem Fr.rdN {s t:St} (h:Fr s t) {id:Nat}:∀ {n o:Nat}{l:List S},Ev.rdN s id o n=some l→Ev.rdN t id o n=some l
 | 0,o,l,hl=>hl
 | n+1,o,l,hl=>by
  rw [rdN_succ] at hl
  rw [rdN_succ]
  cases h1:Ev.rd s id o with
  | none=>rw [h1] at hl;cases hl
  | some a =>
   rw [h1] at hl
   cases h2:Ev.rdN s id (o+1) n with
   | none=>rw [h2] at hl;cases hl
   | some r=>rw [h2] at hl;rw [h.rd h1,h.rdN h2];exact hl
theorem rdN_len {s:St}{id:Nat}:∀ {n o:Nat}{l:List S},Ev.rdN s id o n=some l→l.length=n
 | 0,o,l,hl=>by cases hl;rfl
 | n+1,o,l,hl=>by
  rw [rdN_succ] at hl
  split at hl
  ·rename_i a r h1 h2;cases hl;simp [rdN_len h2]
  ·cases hl
structure Lies (st:St) (g x P:Nat) (l:List S):Prop where
 wf:WfS st
 xlt:x<4
 line:rdN st g (x * 5) 5=some (us P :: l)
 pos:0<P
 lt:P<4294967296
theorem Lies.fr {s t:St} (h:Lies s g x P l) (k:Fr s t):Lies t g x P l:=⟨k.wf,h.xlt,k.rdN h.line,h.pos,h.lt⟩
theorem fOf (hv:F v=some hValid) (bv:Nat.blt v yBase=true) (ho:F o=some (hOf v g)) (bo:Nat.blt o yBase=true) (hl:Lies st g x P l):Ca (cF F) o [iv x] st (fun v s=>(Fr st s∧s.next≤st.next+1)∧v=.agg (us P :: l)):=by
 refine Ca.of ho bo [q0] [.cellN (4+1) q2] rfl rfl rfl fun Q hQ=>?_
 refine Ru.sreg ?_
 simp (disch:=first|decide|omega)
 refine Rg.ret ?_
 refine Ru.seq (Ru.sreg ?_)
 simp (disch:=first|decide|omega)
 refine Rg.call (fValid hv bv _ _) fun v s h=>?_
 obtain ⟨rfl,rfl⟩:=h
 have hx:=hl.xlt
 have h5:=rdN_len hl.line
 simp at h5
 have h4:decide ((x:Int)<4)=true:=by simp;omega
 simp [h4]
 refine Rg.ret (Ru.cond rfl (fun h=>by cases h) fun h=>Ru.skip ?_)
 refine Ru.sreg ?_
 have hr:rdN (new st [us 0,us 0,is 0,is 0,zn]) g (x * 5) 5=some (us P :: l):=((Fr.refl hl.wf).new _).rdN hl.line
 have h6:(us P :: l).length=5:=by simp [h5]
 simp (disch:=first | decide | assumption | omega) [hr]
 exact Rg.ret (Ru.ret (hQ _ _ (.cellN rfl (rdN_mk (z:=[us 0,us 0,is 0,is 0,zn]) (l:=us P :: l) (by simp [h5]) (by simp [h5])) ⟨⟨fr_mk hl.wf _ _,by simp⟩,rfl⟩)))
theorem fP (hv:F v=some hValid) (bv:Nat.blt v yBase=true) (ho:F o=some (hOf v g)) (bo:Nat.blt o yBase=true) (hp:F p=some (hP o)) (bp:Nat.blt p yBase=true) (hl:Lies st g x P l):Ca (cF F) p [iv x] st (fun v s=>(Fr st s∧s.next≤st.next+1)∧v=uv P):=by
 refine Ca.of hp bp [q0] [.tmp q2] rfl rfl rfl fun Q hQ=>?_
 refine Ru.sreg (Rg.ret ?_)
 refine Ru.sreg ?_
 simp (disch:=first|decide|omega)
 refine Rg.call (fOf hv bv ho bo hl) fun v s h=>?_
 obtain ⟨h1,rfl⟩:=h
 refine Rg.ret (Ru.ret (hQ _ _ (.one rfl ⟨h1,rfl⟩)))
structure FAt (F:Nat→Option HF) (g v o p:Nat):Prop where
 hv:F v=some hValid
 bv:Nat.blt v yBase=true
 ho:F o=some (hOf v g)
 bo:Nat.blt o yBase=true
 hp:F p=some (hP o)
 bp:Nat.blt p yBase=true
def fadd (P a b:Nat):Nat:=(a % P+b % P) % P
def fmul (P a b:Nat):Nat:=(a % P) * (b % P) % P
def fneg (P a:Nat):Nat:=(P - a % P) % P
def fsub (P a b:Nat):Nat:=fadd P a (fneg P b)
end
section
noncomputable def hPower:HF:=⟨
(.seq (.reg [q2,q4] fun c r s K=>bxx s (r q0) fun v0 s=>K [v0,U0] s)
 (.seq (.reg [q5] fun c r s K=>binK .mul (r q1) (r q1) fun v0=>fad n0 (r q2) fun v1=>ld s v1 fun v2=>binK .rem v0 v2 fun v3=>K [v3] s)
 (.seq (.seq (.reg [q13] fun c r s K=>fad n2 (r q2) fun v0=>ld s v0 fun v1=>K [v1] s)
 (.cond (.t q13) (.reg [q5] fun c r s K=>binK .mul (r q5) (r q5) fun v0=>fad n0 (r q2) fun v1=>ld s v1 fun v2=>binK .rem v0 v2 fun v3=>K [v3] s)
 .skip))
 (.seq (.reg [q4] fun c r s K=>binK .mul (r q5) (r q1) fun v0=>fad n0 (r q2) fun v1=>ld s v1 fun v2=>binK .rem v0 v2 fun v3=>K [v3] s)
 .ret)))),[(.tmp q4)],[q0,q1],[q6,q7,q8,q9,q10,q11,q12,q14,q15,q16,q17,q18,q19,q20,q21,q22,q23,q24,q25]⟩
def mpow (P:Nat) (five:Bool) (x:Nat):Nat:=(if five then x * x % P * (x * x % P) % P else x * x % P) * x % P
end
section
open Go.RowKit
noncomputable def view (st:St) (c:List S):St:=newBlk st ⟨false,c.length,PM.write c .leaf 0,[],.no⟩
theorem rd_view {st:St} (c:List S) (id i:Nat):rd (view st c) id i=if id=st.next then c[i]? else rd st id i:=by
 unfold rd view
 rw [newBlk_get]
 by_cases h:id=st.next
 ·rw [if_pos h,if_pos h]
  simp only [Option.bind_some]
  unfold Blk.cell
  simp only
  by_cases hi:i<c.length
  ·have:Nat.blt i c.length=true:=Nat.ble_eq_true_of_le hi
   rw [this,iteB_true]
   show orZ _ i ((PM.write c .leaf 0).get i)=_
   rw [PM.get_write,if_pos ⟨Nat.zero_le _,by omega⟩]
   simp only [Nat.sub_zero]
   rw [List.getElem?_eq_getElem hi];rfl
  ·have:Nat.blt i c.length=false:=by rw [← Bool.not_eq_true];intro hh;exact hi (blt_of hh)
   rw [this,iteB_false]
   rw [List.getElem?_eq_none (by omega)]
 ·rw [if_neg h,if_neg h]
theorem Fr.view {s t:St} (h:Fr s t) (c:List S):Fr s (view t c):=by
 have hf:=h.wf t.next (Nat.le_refl _)
 refine ⟨Nat.le_trans h.next (Nat.le_succ _),fun id b hb=>?_,h.low,h.low',fun id hid=>?_⟩
 ·unfold Ev.view
  rw [newBlk_get,if_neg]
  ·exact h.old id b hb
  ·intro he;subst he;have:=h.old _ b hb;rw [hf] at this;cases this
 ·unfold Ev.view at hid ⊢
  have h2:t.next+1≤id:=hid
  rw [newBlk_get,if_neg (by omega)]
  exact h.wf id (by omega)
structure Seen0 (W:World) (g:Nat) (σ:Map) (st:St):Prop where
 rel:RelH σ st W
 free:∀ id,st.next≤id→σ id=none
 nown:∀ id b,st.heap.get id=some b→b.own=false
 no:∀ id b,st.heap.get id=some b→b.k=.no
 glob:Globals σ g
theorem Seen0.view {W:World}{g:Nat}{σ:Map}{st:St} (h:Seen0 W g σ st) {B o:Nat}{cells:Array Value}{e:TypeId}{fr:Nat×Nat} (hB:W.heap[B]?=some (.cells cells e fr)) {c:List S} (hl:o+c.length≤cells.size)
  (hc:∀ i x,c[i]?=some x→∃ v,cells[o+i]?=some v∧RelS σ x v):Seen0 W g (σ.put st.next (B,o,cells.size)) (view st c)∧σ.le (σ.put st.next (B,o,cells.size)):=by
 have hle:=Map.le_put (σ:=σ) (id:=st.next) (x:=(B,o,cells.size)) (h.free _ (Nat.le_refl _))
 have hget:∀ id b,(Ev.view st c).heap.get id=some b→(id=st.next∧b=⟨false,c.length,PM.write c .leaf 0,[],.no⟩)∨(id≠st.next∧st.heap.get id=some b):=fun id b hb=>by
  unfold Ev.view at hb
  rw [newBlk_get] at hb
  by_cases hid:id=st.next
  ·rw [if_pos hid] at hb;cases hb;exact .inl ⟨hid,rfl⟩
  ·rw [if_neg hid] at hb;exact .inr ⟨hid,hb⟩
 have hown:∀ id b,(Ev.view st c).heap.get id=some b→b.own=false:=fun id b hb=>by
  rcases hget id b hb with ⟨_,rfl⟩ | ⟨_,hb⟩
  ·rfl
  ·exact h.nown id b hb
 refine ⟨⟨⟨fun id b hb=>?_,fun id id' b b' x y hb hb' _ ho=>?_,fun id b hb=>?_⟩,fun id hid=>?_,hown,fun id b hb=>?_,fun i hi=>?_⟩,hle⟩
 ·rcases hget id b hb with ⟨rfl,rfl⟩ | ⟨_,hb⟩
  ·refine .of_no rfl ⟨B,o,cells.size,cells,e,fr,Map.put_same _ _ _,hB,(fun hh=>by cases hh),rfl,hl,fun i s hs=>?_⟩
   obtain ⟨v,h1,h2⟩:=hc i s (cell_fresh hs)
   exact ⟨v,h1,h2.mono hle⟩
  ·exact (h.rel.blk id b hb).mono hle
 ·rw [hown id b hb,hown id' b' hb'] at ho
  rcases ho with ho | ho <;> cases ho
 ·rcases hget id b hb with ⟨rfl,_⟩ | ⟨_,hb⟩
  ·exact Nat.lt_succ_self _
  ·exact Nat.lt_succ_of_lt (h.rel.lt id b hb)
 ·have h2:st.next+1≤id:=hid
  rw [Map.put_other _ _ (by omega)]
  exact h.free id (by omega)
 ·rcases hget id b hb with ⟨_,rfl⟩ | ⟨_,hb⟩
  ·rfl
  ·exact h.no id b hb
 ·obtain ⟨c',hc'⟩:=h.glob i hi
  exact ⟨c',hle _ _ hc'⟩
theorem relH_any {i1 i2:LoopP}{σ:Map}{st:St}{w:World} (hno:∀ id b,st.heap.get id=some b→b.k=.no) (h:@RelH i1 σ st w):@RelH i2 σ st w:=by
 refine @RelH.mk i2 σ st w (fun id b hb=>?_) (@RelH.inj i1 σ st w h) (@RelH.lt i1 σ st w h)
 exact @RelB.of_no i2 σ id b w (hno id b hb) (@RelB.no i1 σ id b w (@RelH.blk i1 σ st w h id b hb) (hno id b hb))
section
variable {H:Type} (enc:TypeId×Value→H) (P:Program) (W:World) (g:Nat) (held:Bool)
abbrev Td (fuel:Nat) (t:TypeId) (cs:List Value):Option (DataW H×List MemPlace):=DataW.trod enc P W 0 (fun _=>true) held fuel t cs
def Rdr (t:TypeId) {α:Type} (Rep:St→List S→α→Prop):Prop :=
 ∀ fuel cs x,Td enc P W held fuel t cs=some x→∀ σ st,Seen0 W g σ st→∃ σ' st' l a,Seen0 W g σ' st'∧σ.le σ'∧Fr st st'∧All2 (RelS σ') l cs∧Rep st' l a
end
section
variable {H:Type}{enc:TypeId×Value→H}{P:Program}{W:World}{g:Nat}{held:Bool}{t e:TypeId}
theorem cell_at {w:World}{a:Addr}{v:Value} (h:w.cell? a=some v):∃ c t fr,w.heap[a.block]?=some (.cells c t fr)∧a.spot=none∧c[a.off]?=some v:=by
 unfold World.cell? at h
 split at h
 ·rename_i c t fr hb
  split at h
  ·cases h
  ·rename_i hs
   refine ⟨c,t,fr,hb, ?_,h⟩
   cases hsp:a.spot with
   | none=>rfl
   | some q=>rw [hsp] at hs;exact absurd rfl hs
 ·cases h
def IsSl (s:S) (n id off e:Nat):Prop:=(∃ cap,s=.slice id off n cap e)∨(n=0∧(s=.nils∨s=.esl))
def SlRep {α:Type} (z:Nat) (Rep:St→List S→α→Prop) (st:St) (l:List S) (as:List α):Prop :=
 ∃ s id,l=[s]∧IsSl s as.length id 0 z∧as.length≤maxLen∧((as.length=0→s=.nils∨s=.esl)∧∀ id off n c z,s=.slice id off n (some c) z→n≤c)∧∀ i y,as[i]?=some y→∃ le,le.length=z∧(∀ j x,le[j]?=some x→rd st id (i * z+j)=some x)∧Rep st le y
theorem rdr_slice {α:Type}{Rep:St→List S→α→Prop} (ht:P.underlying t=some (.slice e)) (hz:0<P.cellsOf e) (hmono:∀ {s s':St}{l:List S}{a:α},Rep s l a→Fr s s'→Rep s' l a) (re:Rdr enc P W g held e Rep) :
  Rdr enc P W g held t (SlRep (P.cellsOf e) Rep):=fun fuel cs x h σ st hS=>by
 rcases DataW.trod_slice ht h with ⟨rfl,_⟩ | ⟨a,len,cap,elems,rest,n,rfl,rfl,_,_,hlc,hmx,hel,hat,hrest,_⟩
 ·exact ⟨σ,st,[.nils],[],hS,Map.le.refl σ,Fr.refl hS.rel.wf,.cons .nils .nil,.nils,0,rfl,.inr ⟨rfl,.inl rfl⟩,Nat.zero_le _,⟨fun _=>.inl rfl,fun _ _ _ _ _ h=>by cases h⟩,fun i y hy=>by simp at hy⟩
 rcases Nat.eq_zero_or_pos len with rfl | hpos
 ·exact ⟨σ,st,[.esl],[],hS,Map.le.refl σ,Fr.refl hS.rel.wf,.cons (.esl _ _) .nil,.esl,0,rfl,.inr ⟨rfl,.inr rfl⟩,Nat.zero_le _,⟨fun _=>.inr rfl,fun _ _ _ _ _ h=>by cases h⟩,fun i y hy=>by simp at hy⟩
 obtain ⟨hrl,hrat⟩:=hrest rfl
 have hpiece:∀ i,i<cap→∃ pc x,W.cells? 0 (a.add (i * P.cellsOf e)) (P.cellsOf e)=some pc∧Td enc P W held n e pc=some x:=fun i hi=>by
  have main:∀ o:Option (DataW H×List MemPlace),o.isSome=true→(W.cells? 0 (a.add (i * P.cellsOf e)) (P.cellsOf e)).bind (DataW.trod enc P W 0 (fun _=>true) held n e)=o→∃ pc x,W.cells? 0 (a.add (i * P.cellsOf e)) (P.cellsOf e)=some pc∧Td enc P W held n e pc=some x:=fun o ho hb=>by
   cases o with
   | none=>cases ho
   | some x=>obtain ⟨pc,h1,h2⟩:=Option.bind_eq_some_iff.1 hb;exact ⟨pc,x,h1,h2⟩
  by_cases hil:i<len
  ·exact main _ (by rw [List.getElem?_eq_getElem (by omega)];rfl) (hat i hil)
  ·have:=hrat (i - len) (by omega)
   rw [show len+(i - len)=i by omega] at this
   exact main _ (by rw [List.getElem?_eq_getElem (by omega)];rfl) this
 have hz0:∀ i,i<cap→∀ j,j<P.cellsOf e→∃ v,W.cell? ((a.add (i * P.cellsOf e)).add j)=some v:=fun i hi j hj=>by
  obtain ⟨pc,x,h1,_⟩:=hpiece i hi
  simp only [World.cells?,Nat.zero_le,if_true] at h1
  obtain ⟨v,_,hv⟩:=Lib.mapM_at h1 j j (by simp [hj])
  exact ⟨v,hv⟩
 obtain ⟨v0,hv0⟩:=hz0 0 (by omega) 0 hz
 have ha0:(a.add (0 * P.cellsOf e)).add 0=a:=by simp [Addr.add]
 rw [ha0] at hv0
 obtain ⟨c,t',fr,hblk,hspot,_⟩:=cell_at hv0
 have hadd:∀ i,a.add i=⟨a.block,a.off+i,none⟩:=fun i=>by
  obtain ⟨B,o,sp⟩:=a
  simp only at hspot;subst hspot
  exact add_addr B o i
 have hcell:∀ i,i<cap→∀ j,j<P.cellsOf e→a.off+(i * P.cellsOf e+j)<c.size:=fun i hi j hj=>by
  obtain ⟨v,hv⟩:=hz0 i hi j hj
  obtain ⟨c',t'',fr',hb',_,hc'⟩:=cell_at hv
  rw [hadd,add_addr] at hb' hc'
  simp only at hb' hc'
  rw [hblk] at hb';cases hb'
  have:=(Array.getElem?_eq_some_iff.1 hc').1
  omega
 have steps:∀ k,k≤len→∃ (σ':Map) (st':St) (l:List S) (as:List α),Seen0 W g σ' st'∧σ.le σ'∧Fr st st'∧l.length=k * P.cellsOf e∧as.length=k∧(∀ i x,l[i]?=some x→∃ v,c[a.off+i]?=some v∧RelS σ' x v) ∧
   ∀ i y,as[i]?=some y→Rep st' ((l.drop (i * P.cellsOf e)).take (P.cellsOf e)) y:=by
  intro k
  induction k with
  | zero=>intro _;exact ⟨σ,st,[],[],hS,Map.le.refl σ,Fr.refl hS.rel.wf,by simp,rfl,fun i x hx=>by simp at hx,fun i y hy=>by simp at hy⟩
  | succ k ih =>
   intro hk
   obtain ⟨σ1,st1,l1,as1,q1,q2,q3,q4,q5,q6,q7⟩:=ih (by omega)
   obtain ⟨pc,x,h1,h2⟩:=hpiece k (by omega)
   obtain ⟨σ2,st2,l2,y2,r1,r2,r3,r4,r5⟩:=re n pc x h2 σ1 st1 q1
   have hpl:pc.length=P.cellsOf e:=by
    simp only [World.cells?,Nat.zero_le,if_true] at h1
    have:=Lib.mapM_length h1;simpa using this
   have hl2:l2.length=P.cellsOf e:=by rw [r4.length,hpl]
   refine ⟨σ2,st2,l1 ++ l2,as1 ++ [y2],r1,q2.trans r2,q3.trans r3, ?_,by simp [q5],fun i x hx=>?_,fun i y hy=>?_⟩
   ·rw [List.length_append,q4,hl2,Nat.succ_mul]
   ·by_cases hi:i<l1.length
    ·rw [List.getElem?_append_left hi] at hx
     obtain ⟨v,h3,h4⟩:=q6 i x hx
     exact ⟨v,h3,h4.mono r2⟩
    ·rw [List.getElem?_append_right (by omega)] at hx
     obtain ⟨v,h3,h4⟩:=r4.get _ hx
     refine ⟨v, ?_,h4⟩
     simp only [World.cells?,Nat.zero_le,if_true] at h1
     have hj:i - l1.length<P.cellsOf e:=by have:=(List.getElem?_eq_some_iff.1 hx).1;omega
     obtain ⟨v',h5,h6⟩:=Lib.mapM_at h1 (i - l1.length) (i - l1.length) (by simp [hj])
     rw [h3] at h5;cases h5
     obtain ⟨c',t'',fr',hb',_,hc'⟩:=cell_at h6
     rw [hadd,add_addr] at hb' hc'
     simp only at hb' hc'
     rw [hblk] at hb';cases hb'
     rw [← hc'];congr 1;omega
   ·by_cases hi:i<as1.length
    ·rw [List.getElem?_append_left hi] at hy
     have h3:=hmono (q7 i y hy) r3
     have hle:i * P.cellsOf e+P.cellsOf e≤l1.length:=by
      rw [q4,← Nat.succ_mul];exact Nat.mul_le_mul_right _ (by omega)
     rw [List.drop_append_of_le_length (by omega),List.take_append_of_le_length (by simp;omega)]
     exact h3
    ·rw [List.getElem?_append_right (by omega)] at hy
     have hik:i=k:=by have:=(List.getElem?_eq_some_iff.1 hy).1;simp at this;omega
     subst hik
     rw [q5] at hy
     simp at hy
     subst hy
     rw [← q4,List.drop_left,← hl2,List.take_length]
     exact r5
 obtain ⟨σ1,st1,l1,as1,q1,q2,q3,q4,q5,q6,q7⟩:=steps len (Nat.le_refl _)
 have hlast:=hcell (cap - 1) (by omega) (P.cellsOf e - 1) (by omega)
 have hcap:cap * P.cellsOf e=(cap - 1) * P.cellsOf e+P.cellsOf e:=by rw [← Nat.succ_mul];congr 1;omega
 have hll:l1.length≤cap * P.cellsOf e:=by rw [q4];exact Nat.mul_le_mul_right _ hlc
 obtain ⟨r1,r2⟩:=q1.view hblk (o:=a.off) (c:=l1) (by omega) q6
 refine ⟨_,_,[.slice st1.next 0 len (some cap) (P.cellsOf e)],as1,r1,q2.trans r2,q3.view l1,.cons ?_ .nil,_,st1.next,rfl,.inl ⟨some cap,by rw [q5]⟩,by omega,⟨fun h0=>by omega,fun _ _ _ _ _ h=>by cases h;exact hlc⟩,fun i y hy=>?_⟩
 ·have hval:(Value.slice (some a) len cap)=.slice (some ⟨a.block,a.off+0,none⟩) len cap:=by
   rw [← hadd 0];simp [Addr.add]
  rw [hval]
  exact RelS.slice (Map.put_same _ _ _) (fun x hx=>by cases hx;rfl) hlc (by omega)
 ·have hi:i<len:=by have:=(List.getElem?_eq_some_iff.1 hy).1;omega
  have hle:i * P.cellsOf e+P.cellsOf e≤l1.length:=by
   rw [q4,← Nat.succ_mul];exact Nat.mul_le_mul_right _ (by omega)
  refine ⟨(l1.drop (i * P.cellsOf e)).take (P.cellsOf e),by simp;omega,fun j x hx=>?_,hmono (q7 i y hy) ((Fr.refl q1.rel.wf).view l1)⟩
  have hj:j<P.cellsOf e:=by have:=(List.getElem?_eq_some_iff.1 hx).1;simp at this;omega
  rw [List.getElem?_take_of_lt hj,List.getElem?_drop] at hx
  rw [rd_view,if_pos rfl];exact hx
end
end
section
open Go.RowKit
section
variable {H:Type}{enc:TypeId×Value→H}{P:Program}{W:World}{g:Nat}{held:Bool}{t e:TypeId}
def PairRep {α β:Type} (R0:St→List S→α→Prop) (R1:St→List S→β→Prop) (st:St) (l:List S) (a:α×β):Prop:=∃ l0 l1,l=l0 ++ l1∧R0 st l0 a.1∧R1 st l1 a.2
def ManyRep {α:Type} (k z:Nat) (Rep:St→List S→α→Prop) (st:St) (l:List S) (as:List α):Prop:=l.length=k * z∧as.length=k∧∀ i y,as[i]?=some y→Rep st ((l.drop (i * z)).take z) y
end
section
variable {P:Program}{g:Nat}
theorem stOf_seen {W:World}{laid:List (String×DataW Unit)}{nx':Nat}{l:List (Nat×List S)} (hL:laidMet P laid W) (hgl:∀ n g',P.globalNamed n=some g'→g'<g) (h:laidCells P laid g=some (l,nx')) :
  ∃ σ:Map,Seen0 W g σ (stOf l nx'):=by
 letI:LoopP:=noLoops
 obtain ⟨σ,h1,h2,h3⟩:=laid_rel (W:=W) hL hgl h
 exact ⟨σ,h1,fun id hid=>h3 (id+1) id hid (Nat.lt_succ_self _),fun id b hb=>by (obtain ⟨c,_,rfl⟩:=heapOf_get hb;rfl),fun id b hb=>by (obtain ⟨c,_,rfl⟩:=heapOf_get hb;rfl),h2⟩
theorem open_lawO {W:World}{F:Nat→Option HF} (hm:P.follows .mixedOrders=true) {k f nx:Nat}{l:List (Nat×List S)}{O:Nat→Option Bool} (hF:∀ f cf,F f=some cf→okF P g f cf)
  (hl:listOk l nx=true) (hg:g≤nx) (hO:∀ f b,O f=some b→f<yBase∧∃ k,callK F (run F k) f [] (stOf l nx) (saysB b)=.done .normal .leaf ⟨.leaf,0,0⟩) (hfb:f<yBase)
  {σ:Map}{st:St} (hS:Seen0 W g σ st) {args:List V}{args':Array Value} (ha:All2 (RelV σ) args args'.toList)
  (hrun:callK F (runO l O F k) f args st saysTrue=.done .normal .leaf ⟨.leaf,0,0⟩) :
  Calls P f args' W fun e w'=>e=.returned (.bool true)∧Below W.heap.size W w'∧∀ a,w'.frozen? a=W.frozen? a:=by
 letI:LoopP:=lpOf P g F
 have hLP:IsLP P g F:=fun _ _ _ _ _=>Iff.rfl
 obtain ⟨v,st',a1,a2,a45⟩:=call_ok hLP hF (runO_ok hLP hm hF hl hg hO k).1 (runO_ok hLP hm hF hl hg hO k).2 f args st saysTrue _ _ _ hrun
 rcases a45 with ⟨_,_,a4⟩ | ⟨a5,_⟩
 rotate_left
 ·exact absurd a5 (by omega)
 refine Calls.mono (a4 σ args' W st'.next ha hS.glob (relH_any hS.no hS.rel) (fun id h1 _=>hS.free id h1) (Nat.le_refl _)) fun e w' he=>?_
 obtain ⟨v',σ',rfl,hext,hrel'⟩:=he
 have hv:v=.sc (.bool true):=by
  unfold saysTrue at a1
  split at a1
  ·rfl
  ·cases a1
 subst hv
 cases hrel' with
 | sc hr =>
  cases hr
  exact ⟨rfl,⟨hext.os,hext.tape,hext.output,hext.size,fun i hi=>hext.frame i hi fun id b x hb ho=>by rw [hS.nown id b hb] at ho;cases ho⟩,hext.fro⟩
end
end
section
open Go.RowKit
inductive Ty where
 | u64 | u8 | i64 | bool | str | unit
 | pair (a b:Ty)
 | slice (t:Ty)
def Ty.den:Ty→Type
 | .u64=>Nat
 | .u8=>Nat
 | .i64=>Int
 | .bool=>Bool
 | .str=>ByteArray
 | .unit=>Unit
 | .pair a b=>a.den×b.den
 | .slice t=>List t.den
def Ty.z:Ty→Nat
 | .unit=>0
 | .pair a b=>a.z+b.z
 | _=>1
def Ru64 (l:List S) (a:Nat):Prop:=l=[us a]∧a<18446744073709551616
def Ru8 (l:List S) (a:Nat):Prop:=l=[bs a]∧a<256
def Ri64 (l:List S) (a:Int):Prop:=l=[is a]∧ -9223372036854775808≤a∧a<9223372036854775808
def Rbool (l:List S) (a:Bool):Prop:=l=[S.bool a]
def Rstr (l:List S) (a:ByteArray):Prop:=l=[S.lit (.string a)]∧a.size≤maxLen
def RepTy:(t:Ty)→St→List S→t.den→Prop
 | .u64,_,l,a=>Ru64 l a
 | .u8,_,l,a=>Ru8 l a
 | .i64,_,l,a=>Ri64 l a
 | .bool,_,l,a=>Rbool l a
 | .str,_,l,a=>Rstr l a
 | .unit,_,l,_=>l=[]
 | .pair a b,st,l,x=>∃ l0 l1,l=l0 ++ l1∧RepTy a st l0 x.1∧RepTy b st l1 x.2
 | .slice t,st,l,as=>SlRep t.z (RepTy t) st l as
theorem RepTy.len:∀ {t:Ty}{st:St}{l:List S}{a:t.den},RepTy t st l a→l.length=t.z
 | .u64,_,l,a,h=>by have h:Ru64 l a:=h;rw [h.1];rfl
 | .u8,_,l,a,h=>by have h:Ru8 l a:=h;rw [h.1];rfl
 | .i64,_,l,a,h=>by have h:Ri64 l a:=h;rw [h.1];rfl
 | .bool,_,l,a,h=>by have h:l=[S.bool a]:=h;rw [h];rfl
 | .str,_,l,a,h=>by have h:Rstr l a:=h;rw [h.1];rfl
 | .unit,_,l,_,h=>by have h:l=[]:=h;rw [h];rfl
 | .pair a b,_,l,_,h=>by
  obtain ⟨l0,l1,rfl,h0,h1⟩:=h
  rw [List.length_append,h0.len,h1.len];rfl
 | .slice t,_,_,_,h=>by
  obtain ⟨s,id,rfl,_⟩:=h;rfl
theorem RepTy.fr:∀ {t:Ty}{s s':St}{l:List S}{a:t.den},RepTy t s l a→Fr s s'→RepTy t s' l a
 | .u64,_,_,_,_,h,_=>h
 | .u8,_,_,_,_,h,_=>h
 | .i64,_,_,_,_,h,_=>h
 | .bool,_,_,_,_,h,_=>h
 | .str,_,_,_,_,h,_=>h
 | .unit,_,_,_,_,h,_=>h
 | .pair a b,_,_,_,_,h,k=>by
  obtain ⟨l0,l1,h2,h0,h1⟩:=h
  exact ⟨l0,l1,h2,h0.fr k,h1.fr k⟩
 | .slice t,_,_,_,_,h,k=>by
  obtain ⟨x,id,h1,h2,h3,h5,h4⟩:=h
  refine ⟨x,id,h1,h2,h3,h5,fun i y hy=>?_⟩
  obtain ⟨le,e1,e2,e3⟩:=h4 i y hy
  exact ⟨le,e1,fun j x hx=>k.rd (e2 j x hx),e3.fr k⟩
def arrTy (t:Ty):Nat→Ty
 | 0=>.unit
 | n+1=>.pair t (arrTy t n)
def structOf (P:Program) (f:TypeId→Option Ty):List Field→Nat→Nat→Option Ty
 | [],o,n=>if o=n then some .unit else none
 | x :: r,o,n=>if x.offset=o then (match f x.type with
   | some t=>if t.z=P.cellsOf x.type then (match structOf P f r (o+t.z) n with | some u=>some (.pair t u) | none=>none) else none
   | none=>none) else none
def tyOf (P:Program):Nat→TypeId→Option Ty
 | 0,_=>none
 | n+1,t=>match P.underlying t with
  | some .bool=>some .bool
  | some (.int .u64)=>some .u64
  | some (.int .u8)=>some .u8
  | some (.int .i64)=>some .i64
  | some .string=>some .str
  | some (.slice e)=>(match tyOf P n e with | some u=>if u.z=P.cellsOf e∧0<u.z then some (.slice u) else none | none=>none)
  | some (.array k e)=>(match tyOf P n e with | some u=>if u.z=P.cellsOf e∧P.cellsOf t=k * u.z then some (arrTy u k) else none | none=>none)
  | some (.struct fs)=>structOf P (tyOf P n) fs.toList 0 (P.cellsOf t)
  | _=>none
section
variable {H:Type}{enc:TypeId×Value→H}{P:Program}{W:World}{g:Nat}{held:Bool}
def RdrC (W:World) (g:Nat) (cs:List Value) (ty:Ty):Prop:=∀ σ st,Seen0 W g σ st→∃ σ' st' l a,Seen0 W g σ' st'∧σ.le σ'∧Fr st st'∧All2 (RelS σ') l cs∧RepTy ty st' l a
theorem RdrC.nil:RdrC W g [] .unit:=fun σ st hS=>⟨σ,st,[],(),hS,Map.le.refl σ,Fr.refl hS.rel.wf,.nil,rfl⟩
theorem RdrC.cons {c1 c2:List Value}{a b:Ty} (h1:RdrC W g c1 a) (h2:RdrC W g c2 b):RdrC W g (c1 ++ c2) (.pair a b):=fun σ st hS=>by
 obtain ⟨σ1,st1,l1,y1,q1,q2,q3,q4,q5⟩:=h1 σ st hS
 obtain ⟨σ2,st2,l2,y2,p1,p2,p3,p4,p5⟩:=h2 σ1 st1 q1
 exact ⟨σ2,st2,l1 ++ l2,(y1,y2),p1,q2.trans p2,q3.trans p3,(q4.imp fun _ _ h=>h.mono p2).append p4,l1,l2,rfl,q5.fr p3,p5⟩
theorem rdr_arr {e:TypeId}{u:Ty}{n:Nat}{cs:List Value} (hz:u.z=P.cellsOf e) (hr:Rdr enc P W g held e (RepTy u)):∀ (k o:Nat),cs.length=(o+k) * u.z→(∀ i,o≤i→i<o+k→∃ x,Td enc P W held n e ((cs.drop (i * P.cellsOf e)).take (P.cellsOf e))=some x)→RdrC W g (cs.drop (o * u.z)) (arrTy u k)
 | 0,o,hl,_=>by
  rw [List.drop_of_length_le (by rw [hl];exact Nat.le_refl _)]
  exact RdrC.nil
 | k+1,o,hl,hx=>by
  have ih:=rdr_arr hz hr k (o+1) (by rw [hl];congr 1;omega) (fun i h1 h2=>hx i (by omega) (by omega))
  have he:cs.drop (o * u.z)=(cs.drop (o * P.cellsOf e)).take (P.cellsOf e) ++ cs.drop ((o+1) * u.z):=by
   rw [← hz,Nat.succ_mul,← List.drop_drop,List.take_append_drop]
  rw [he]
  obtain ⟨x,hx0⟩:=hx o (Nat.le_refl _) (by omega)
  exact RdrC.cons (fun σ st hS=>hr n _ x hx0 σ st hS) ih
theorem rdr_fields {f:TypeId→Option Ty}{n N:Nat}{cs:List Value} (hf:∀ t u,f t=some u→Rdr enc P W g held t (RepTy u)) (hl:cs.length=N):∀ (fl:List Field) (o:Nat) (ty:Ty),structOf P f fl o N=some ty→(∀ x∈fl,∃ y,Td enc P W held n x.type ((cs.drop x.offset).take (P.cellsOf x.type))=some y)→RdrC W g (cs.drop o) ty
 | [],o,ty,h,_=>by
  unfold structOf at h
  split at h
  ·cases h
   rename_i ho
   rw [List.drop_of_length_le (by omega)]
   exact RdrC.nil
  ·cases h
 | x :: r,o,ty,h,hx=>by
  unfold structOf at h
  split at h
  ·rename_i ho
   split at h
   ·rename_i t ht
    split at h
    ·rename_i hz
     split at h
     ·rename_i u hu
      cases h
      have ih:=rdr_fields hf hl r (o+t.z) u hu fun y hy=>hx y (List.mem_cons_of_mem _ hy)
      have he:cs.drop o=(cs.drop x.offset).take (P.cellsOf x.type) ++ cs.drop (o+t.z):=by
       rw [ho,← hz,← List.drop_drop,List.take_append_drop]
      rw [he]
      obtain ⟨y,hy⟩:=hx x List.mem_cons_self
      exact RdrC.cons (fun σ st hS=>hf _ _ ht n _ y hy σ st hS) ih
     ·cases h
    ·cases h
   ·cases h
  ·cases h
theorem rdr_ty:∀ (n:Nat) (t:TypeId) (ty:Ty),tyOf P n t=some ty→Rdr enc P W g held t (RepTy ty)
 | 0,_,_,h=>by cases h
 | n+1,t,ty,h=>by
  unfold tyOf at h
  split at h
  ·rename_i ht;cases h
   intro fuel cs x hx σ st hS
   obtain ⟨b,rfl,_⟩:=DataW.trod_bool ht hx
   exact ⟨σ,st,[.bool b],b,hS,Map.le.refl σ,Fr.refl hS.rel.wf,.cons (.bool b) .nil,rfl⟩
  ·rename_i ht;cases h
   intro fuel cs x hx σ st hS
   obtain ⟨n,rfl,_,hw⟩:=DataW.trod_int ht hx
   have hb:0≤n∧n<18446744073709551616:=by
    simp only [Lit.wf,Bool.and_eq_true,decide_eq_true_eq] at hw
    exact ⟨Int.le_trans (by decide) hw.1,Int.lt_of_le_of_lt hw.2 (by decide)⟩
   obtain ⟨a,rfl⟩:=Int.eq_ofNat_of_zero_le hb.1
   exact ⟨σ,st,[us a],a,hS,Map.le.refl σ,Fr.refl hS.rel.wf,.cons (.int _ _) .nil,rfl,by omega⟩
  ·rename_i ht;cases h
   intro fuel cs x hx σ st hS
   obtain ⟨n,rfl,_,hw⟩:=DataW.trod_int ht hx
   have hb:0≤n∧n<256:=by
    simp only [Lit.wf,Bool.and_eq_true,decide_eq_true_eq] at hw
    exact ⟨Int.le_trans (by decide) hw.1,Int.lt_of_le_of_lt hw.2 (by decide)⟩
   obtain ⟨a,rfl⟩:=Int.eq_ofNat_of_zero_le hb.1
   exact ⟨σ,st,[bs a],a,hS,Map.le.refl σ,Fr.refl hS.rel.wf,.cons (.int _ _) .nil,rfl,by omega⟩
  ·rename_i ht;cases h
   intro fuel cs x hx σ st hS
   obtain ⟨n,rfl,_,hw⟩:=DataW.trod_int ht hx
   have hb: -9223372036854775808≤n∧n<9223372036854775808:=by
    simp only [Lit.wf,Bool.and_eq_true,decide_eq_true_eq] at hw
    exact ⟨Int.le_trans (by decide) hw.1,Int.lt_of_le_of_lt hw.2 (by decide)⟩
   exact ⟨σ,st,[is n],n,hS,Map.le.refl σ,Fr.refl hS.rel.wf,.cons (.int _ _) .nil,rfl,hb⟩
  ·rename_i ht;cases h
   intro fuel cs x hx σ st hS
   obtain ⟨s,rfl,_,hw⟩:=DataW.trod_string ht hx
   exact ⟨σ,st,[.lit (.string s)],s,hS,Map.le.refl σ,Fr.refl hS.rel.wf,.cons (.lit _ rfl) .nil,rfl,hw⟩
  ·rename_i e ht
   split at h
   ·rename_i u hu
    split at h
    ·rename_i hz
     cases h
     have:=rdr_slice (Rep:=RepTy u) ht (by rw [← hz.1];exact hz.2) RepTy.fr (rdr_ty n e u hu)
     rw [← hz.1] at this
     exact this
    ·cases h
   ·cases h
  ·rename_i k e ht
   split at h
   ·rename_i u hu
    split at h
    ·rename_i hz
     cases h
     intro fuel cs x hx σ st hS
     obtain ⟨xs,m,rfl,_,hlen,hxs,hat⟩:=DataW.trod_array ht hx
     have:=rdr_arr (cs:=cs) (n:=m) hz.1 (rdr_ty n e u hu) k 0 (by rw [hlen,hz.2,Nat.zero_add]) fun i _ hi=>⟨_,(hat i (by omega)).trans (List.getElem?_eq_getElem (by omega))⟩
     rw [Nat.zero_mul,List.drop_zero] at this
     exact this σ st hS
    ·cases h
   ·cases h
  ·rename_i fs ht
   intro fuel cs x hx σ st hS
   obtain ⟨xs,m,rfl,_,hlen,hxs,hat⟩:=DataW.trod_struct ht hx
   have:=rdr_fields (cs:=cs) (n:=m) (N:=P.cellsOf t) (fun t u=>rdr_ty n t u) hlen fs.toList 0 ty h fun y hy=>by
    obtain ⟨i,hi⟩:=List.getElem?_of_mem hy
    rw [Array.getElem?_toList] at hi
    have hlt:=(Array.getElem?_eq_some_iff.1 hi).1
    exact ⟨_,(hat i y hi).trans (List.getElem?_eq_getElem (by omega))⟩
   rw [List.drop_zero] at this
   exact this σ st hS
  ·cases h
end
end
section
variable {st s t:St}{id off i n:Nat}
def Sat (st:St) (s:S) (n z:Nat) (cs:List S):Prop:=cs.length=n * z∧((n=0∧(s=.nils∨s=.esl))∨∃ id off cap b,s=.slice id off n cap z∧(∀ m,cap=some m→n≤m)∧st.heap.get id=some b∧∀ i x,cs[i]?=some x→b.cell (off+i)=some x)
def sid:S→Option Nat
 | .slice id _ _ _ _=>some id
 | _=>none
def Grw (a:Nat) (st:St) (s:S) (n z:Nat):Prop:=(n=0∧s=.nils)∨∃ id b,s=.slice id 0 n none z∧a≤id∧st.heap.get id=some b∧b.own=true∧b.k=.no∧n * z≤b.n
structure Kp (o:Option Nat) (s t:St):Prop where
 next:s.next≤t.next
 old:∀ id b,o≠some id→s.heap.get id=some b→t.heap.get id=some b
 low:∀ a,a≤s.next→(∀ id,o=some id→a≤id)→min s.low a≤t.low
 low':t.low≤s.low
 wf:WfS t
theorem Kp.fr {o:Option Nat}{u:St} (k:Kp o s t) (h:Fr u s) (ho:∀ id,o=some id→u.next≤id) (hu:WfS u):Fr u t :=
 ⟨Nat.le_trans h.next k.next,fun id b hb=>k.old id b (fun he=>by have:=ho id he;rw [hu id this] at hb;cases hb) (h.old id b hb),by have:=k.low u.next h.next ho;have:=h.low;omega,Nat.le_trans k.low' h.low',k.wf⟩
theorem Kp.rd {o:Option Nat} (k:Kp o s t) (ho:o≠some id) {x:S} (hx:rd s id i=some x):rd t id i=some x:=by
 unfold Ev.rd at *
 cases hb:s.heap.get id with
 | none=>rw [hb] at hx;cases hx
 | some b=>rw [hb] at hx;rw [k.old id b ho hb];exact hx
theorem Fr.kp (h:Fr s t) (o:Option Nat):Kp o s t:=⟨h.next,fun id b _ hb=>h.old id b hb,fun a ha _=>by have:=h.low;omega,h.low',h.wf⟩
theorem Kp.trans {o:Option Nat}{u:St} (h:Kp o s t) (k:Kp o t u):Kp o s u :=
 ⟨Nat.le_trans h.next k.next,fun id b ho hb=>k.old id b ho (h.old id b ho hb),fun a ha ho=>by have:=h.low a ha ho;have:=k.low a (Nat.le_trans ha h.next) ho;omega,Nat.le_trans k.low' h.low',k.wf⟩
theorem Sat.keep {o:Option Nat}{x:S}{n z:Nat}{cs:List S} (h:Sat s x n z cs) (k:Kp o s t) (ho:∀ id,o=some id→sid x≠some id):Sat t x n z cs:=by
 obtain ⟨h1,h | ⟨id,off,c,b,rfl,hm,h2,h3⟩⟩:=h
 ·exact ⟨h1,.inl h⟩
 ·exact ⟨h1,.inr ⟨id,off,c,b,rfl,hm,k.old id b (fun he=>ho id he rfl) h2,h3⟩⟩
theorem Sat.fr {x:S}{n z:Nat}{cs:List S} (h:Sat s x n z cs) (k:Fr s t):Sat t x n z cs:=h.keep (k.kp none) fun id he=>by cases he
theorem Sat.nil (z:Nat):Sat st .nils 0 z []:=⟨by simp,.inl ⟨rfl,.inl rfl⟩⟩
theorem Grw.nil (a z:Nat):Grw a st .nils 0 z:=.inl ⟨rfl,rfl⟩
theorem Grw.fr {a z:Nat}{x:S} (h:Grw a s x n z) (k:Fr s t):Grw a t x n z:=by
 rcases h with h | ⟨id,b,h1,h2,h3,h4⟩
 ·exact .inl h
 ·exact .inr ⟨id,b,h1,h2,k.old id b h3,h4⟩
theorem Grw.keep {o:Option Nat}{a z:Nat}{x:S} (h:Grw a s x n z) (k:Kp o s t) (ho:∀ id,o=some id→sid x≠some id):Grw a t x n z:=by
 rcases h with h | ⟨id,b,rfl,h2,h3,h4⟩
 ·exact .inl h
 ·exact .inr ⟨id,b,rfl,h2,k.old id b (fun he=>ho id he rfl) h3,h4⟩
theorem Grw.le {a b z:Nat}{x:S} (h:Grw a s x n z) (k:b≤a):Grw b s x n z:=by
 rcases h with h | ⟨id,bb,h1,h2,h4⟩
 ·exact .inl h
 ·exact .inr ⟨id,bb,h1,Nat.le_trans k h2,h4⟩
theorem Grw.sid {a z:Nat}{x:S} (h:Grw a s x n z):∀ id,Ev.sid x=some id→a≤id:=fun id he=>by
 rcases h with ⟨_,rfl⟩ | ⟨id',bb,rfl,h2,h4⟩
 ·cases he
 ·cases he;exact h2
theorem Grw.lt {a z:Nat}{x:S} (h:Grw a s x n z) (hw:WfS s):∀ id,Ev.sid x=some id→id<s.next:=fun id he=>by
 rcases h with ⟨_,rfl⟩ | ⟨id',bb,rfl,h2,h3,h4⟩
 ·cases he
 ·cases he
  refine Classical.byContradiction fun hh=>?_
  rw [hw id (by omega)] at h3;cases h3
theorem app_ok {x:S}{n z b k a:Nat}{cs new:List S} (hw:WfS st) (hs:Sat st x n z cs) (hm:Grw a st x n z) (ha:a≤st.next) (hn:new.length=k * z) (hk:0<k) (hb:(4 * (n+k)+4096) * b≤281474976710656) (hl:n+k≤9223372036854775807) :
  ∃ y st',(∀ K,appendK st z b k new K x=K (.sc y) st')∧Sat st' y (n+k) z (cs ++ new)∧Grw a st' y (n+k) z∧Kp (Ev.sid x) st st'∧Ev.sid y=some st.next∧st'.next=st.next+1:=by
 obtain ⟨hcl,his⟩:=hs
 have hk0:Nat.beq k 0=false:=by rw [← Bool.not_eq_true];intro hh;have:=Nat.eq_of_beq_eq_true hh;omega
 have hb1:Nat.ble (Nat.mul (Nat.add (Nat.mul 4 (Nat.add n k)) 4096) b) 281474976710656=true:=Nat.ble_eq_true_of_le hb
 have hl1:Nat.ble (Nat.add n k) 9223372036854775807=true:=Nat.ble_eq_true_of_le hl
 rcases hm with ⟨rfl,rfl⟩ | ⟨id,bk,rfl,h1,h2,h3,h4,h5⟩
 ·refine ⟨.slice st.next 0 k none z,Ev.new st new,fun K=>?_, ?_, ?_, ?_,rfl,rfl⟩
  ·show iteB (Nat.beq k 0) _ _=_
   rw [hk0,iteB_false,hb1,iteB_true,hl1,iteB_true]
   show growN st z k new K=_
   unfold growN
   rw [allocL_eq];rfl
  ·have:cs=[]:=List.eq_nil_of_length_eq_zero (by simpa using hcl)
   subst this
   rw [Nat.zero_add]
   refine ⟨by simpa using hn,.inr ⟨st.next,0,none,_,rfl,(fun m hm=>by cases hm),by unfold Ev.new;rw [newBlk_get,if_pos rfl],fun i y hy=>?_⟩⟩
   have h6:rd (Ev.new st new) st.next i=some y:=by rw [rd_new,if_pos rfl];simpa using hy
   unfold Ev.rd Ev.new at h6
   rw [newBlk_get,if_pos rfl] at h6
   rw [Nat.zero_add];exact h6
  ·rw [Nat.zero_add]
   exact .inr ⟨st.next,⟨true,new.length,PM.write new .leaf 0,[],.no⟩,rfl,ha,by unfold Ev.new;rw [newBlk_get,if_pos rfl],rfl,rfl,by rw [hn];exact Nat.le_refl _⟩
  ·exact ((Fr.refl hw).new _).kp _
 ·have hid:id<st.next:=Classical.byContradiction fun hh=>by rw [hw id (by omega)] at h2;cases h2
  obtain ⟨own,bn,bm,bz,bkk⟩:=bk
  simp only at h3 h4 h5
  subst h3 h4
  have e0:(∀ i y,cs[i]?=some y→Blk.cell ⟨true,bn,bm,bz,.no⟩ i=some y)∨n=0:=by
   rcases his with ⟨h,_⟩ | ⟨id',off',c',b',h6,_,h7,h8⟩
   ·exact .inr h
   ·cases h6
    rw [h2] at h7;cases h7
    exact .inl fun i y hy=>by have:=h8 i y hy;rwa [Nat.zero_add] at this
  refine ⟨.slice st.next 0 (n+k) none z,newBlk (putBlk st id none) ⟨true,(n+k) * z,PM.write new bm (n * z),bz,.no⟩,fun K=>?_, ?_, ?_, ?_,rfl,rfl⟩
  ·show iteB (Nat.beq k 0) _ _=_
   rw [hk0,iteB_false,hb1,iteB_true,hl1,iteB_true]
   show iteB (Nat.beq z z) (growK st id 0 n z k new true K) _=_
   rw [Nat.beq_refl,iteB_true]
   unfold growK
   rw [hget_eq,h2]
   show iteB (Nat.ble (Nat.add 0 (Nat.mul n z)) bn) (iteB true (iteB true (killK st id (growGo 0 n z k new K ⟨true,bn,bm,bz,.no⟩)) (.fail 4)) _) (.fail 31)=_
   have:Nat.ble (Nat.add 0 (Nat.mul n z)) bn=true:=Nat.ble_eq_true_of_le (by show 0+n * z≤bn;omega)
   rw [this,iteB_true,iteB_true,iteB_true]
   cases st with
   | mk hp nx lo =>
    show hsetK (Nat.succ id) hp id none (fun h=>minK lo id fun lo=>growGo 0 n z k new K ⟨true,bn,bm,bz,.no⟩ ⟨h,nx,lo⟩)=_
    rw [hsetK_eq',PM.setK_eq,minK_eq]
    show iteB (Nat.beq 0 0) (growFin n z k new K bm bz _) _=_
    rw [Nat.beq_refl,iteB_true]
    unfold growFin
    rw [cwriteK_eq',writeK_eq,seqN_eq]
    show allocK _ _ _ _ _=_
    unfold allocK
    rw [seqN_eq,hsetK_eq',PM.setK_eq]
    show seqN _ _=_
    rw [seqN_eq]
    rfl
  ·refine ⟨by rw [List.length_append,hcl,hn,Nat.add_mul],.inr ⟨st.next,0,none,_,rfl,(fun m hm=>by cases hm),by rw [newBlk_get];exact if_pos rfl,fun i y hy=>?_⟩⟩
   rw [Nat.zero_add]
   unfold Blk.cell
   simp only
   have hi:i<(n+k) * z:=by
    have:=(List.getElem?_eq_some_iff.1 hy).1
    rw [List.length_append,hcl,hn,← Nat.add_mul] at this;exact this
   have hlt:Nat.blt i ((n+k) * z)=true:=Nat.ble_eq_true_of_le hi
   rw [hlt,iteB_true]
   show orZ _ i ((PM.write new bm (n * z)).get i)=_
   rw [PM.get_write]
   by_cases hin:i<cs.length
   ·rw [List.getElem?_append_left hin] at hy
    rw [if_neg (by rw [hcl] at hin;omega)]
    rcases e0 with e0 | rfl
    ·have h6:=e0 i y hy
     have hbi:Nat.blt i bn=true:=Nat.ble_eq_true_of_le (by show i+1≤bn;rw [hcl] at hin;omega)
     unfold Blk.cell at h6
     simp only [hbi,iteB_true] at h6
     exact h6
    ·rw [Nat.zero_mul] at hcl;omega
   ·rw [List.getElem?_append_right (by omega)] at hy
    have:=(List.getElem?_eq_some_iff.1 hy).1
    rw [if_pos (by omega),← hcl,hy];rfl
  ·exact .inr ⟨st.next,_,rfl,ha,by rw [newBlk_get];exact if_pos rfl,rfl,rfl,Nat.le_refl _⟩
  ·refine ⟨Nat.le_succ _,fun id' b' ho hb'=>?_,fun a' ha' ho=>?_, ?_,fun id' hid'=>?_⟩
   ·have h6:id'≠id:=fun he=>ho (by rw [he];rfl)
    have h7:id'≠st.next:=fun he=>by rw [he,hw st.next (Nat.le_refl _)] at hb';cases hb'
    rw [newBlk_get]
    show (if id'=st.next then _ else (putBlk st id none).heap.get id')=_
    rw [if_neg h7,putBlk_get,if_neg h6];exact hb'
   ·show min st.low a'≤min st.low id
    have:=ho id rfl;omega
   ·show min st.low id≤st.low
    omega
   ·have h7:st.next+1≤id':=hid'
    rw [newBlk_get]
    show (if id'=st.next then _ else (putBlk st id none).heap.get id')=_
    rw [if_neg (by omega),putBlk_get,if_neg (by omega)];exact hw id' (by omega)
theorem lnS_sat {x:S}{n z:Nat}{cs:List S} (h:Sat st x n z cs) (K:V→R):lnS (.sc x) K=K (iv n):=by
 rcases h.2 with ⟨rfl,rfl | rfl⟩ | ⟨id,off,c,b,rfl,_⟩ <;> rfl
theorem lenL'_sat {x:S}{n z:Nat}{cs:List S} (h:Sat st x n z cs) (K:Nat→R):lenL' x K=K n:=by
 rcases h.2 with ⟨rfl,rfl | rfl⟩ | ⟨id,off,c,b,rfl,_⟩ <;> rfl
theorem cellsAt_of {b:Blk}:∀ {n o:Nat}{l:List S},l.length=n→(∀ i x,l[i]?=some x→b.cell (o+i)=some x)→cellsAt b o n=some l
 | 0,o,[],_,_=>rfl
 | n+1,o,[],h,_=>by cases h
 | 0,o,_ :: _,h,_=>by cases h
 | n+1,o,a :: l,h,hr=>by
  have h0:=hr 0 a rfl
  rw [Nat.add_zero] at h0
  show ((b.cell o).bind fun s=>(cellsAt b (o+1) n).map (s :: ·))=_
  rw [h0,cellsAt_of (n:=n) (by simpa using h) (fun i x hx=>by have:=hr (i+1) x (by simpa using hx);rw [← this];congr 1;omega)]
  rfl
theorem cellsFrom_sat {x:S}{n z:Nat}{cs:List S} (h:Sat st x n z cs) (K:List S→R):cellsFrom st z n x K=K cs:=by
 obtain ⟨hl,h⟩:=h
 rcases h with ⟨rfl,h⟩ | ⟨id,off,c,b,rfl,_,hb,hc⟩
 ·have:cs=[]:=List.eq_nil_of_length_eq_zero (by rw [hl,Nat.zero_mul])
  subst this
  rcases h with rfl | rfl <;> rfl
 ·show Option.rec (motive:=fun _=>R) (.fail 28) (fun b=>readK (.fail 27) b (Nat.mul n z) off K) (hget st.heap id)=_
  rw [hget_eq,hb]
  show readK (.fail 27) b (n * z) off K=_
  rw [readK_eq,cellsAt_of hl hc]
theorem Sat.rd {x:S}{n z:Nat}{cs:List S} (h:Sat st x n z cs) (hn:0<n):∃ id off c,x=.slice id off n c z∧∀ i y,cs[i]?=some y→Ev.rd st id (off+i)=some y:=by
 rcases h.2 with ⟨rfl,_⟩ | ⟨id,off,c,b,rfl,_,hb,hc⟩
 ·omega
 ·exact ⟨id,off,c,rfl,fun i y hy=>by unfold Ev.rd;rw [hb];exact hc i y hy⟩
theorem xA_sat {x y:S}{n z b:Nat}{new:List S}{c:CallK}{r:Ev}{K:V→St→R} (h:Sat st y n z new):xA z b (.sc x) (.sc y) c r st K=appendK st z b n new K x:=by
 show lenL' y (fun n=>cellsFrom st z n y fun new=>appendK st z b n new K x)=_
 rw [lenL'_sat h,cellsFrom_sat h]
theorem append_none {x:S}{n z b:Nat}{cs:List S}{K:V→St→R} (h:Sat st x n z cs):appendK st z b 0 [] K x=K (.sc x) st:=by
 unfold appendK
 rw [lenL'_sat h];rfl
theorem fill_nil (tm:Ev) (K:List S→R) (l:List S):fillK tm K [] l=K l:=by
 show seqL l K=_
 rw [seqL_eq]
theorem fill_cons (tm:Ev) (K:List S→R) (l:List S) (o n:Nat) (v:V) (ps:List (Nat×Nat×O)) (h1:(cellsV v).length=n) (h2:o+n≤l.length) (h3:∀ r,notTup v r=r):fillK tm K ((o,n,.c v) :: ps) l=fillK tm K ps (setRange l o (cellsV v)):=by
 show notTup v (iteB (Nat.beq (lenL (cellsV v)) n) (iteB (Nat.ble (Nat.add o n) (lenL l)) (fillK tm K ps (setRange l o (cellsV v))) (.fail 21)) (.fail 21))=_
 have:Nat.ble (Nat.add o n) (lenL l)=true:=by rw [lenL_eq];exact Nat.ble_eq_true_of_le h2
 rw [h3,lenL_eq,h1,Nat.beq_refl,iteB_true,this,iteB_true]
theorem fill_sc (tm:Ev) (K:List S→R) (l:List S) (o:Nat) (x:S) (ps:List (Nat×Nat×O)) (h:o<l.length):fillK tm K ((o,1,.c (.sc x)) :: ps) l=fillK tm K ps (setRange l o [x]):=fill_cons tm K l o 1 (.sc x) ps rfl h fun _=>rfl
theorem fill_agg (tm:Ev) (K:List S→R) (l:List S) (o:Nat) (x:List S) (n:Nat) (ps:List (Nat×Nat×O)) (h:x.length=n) (h':o+n≤l.length):fillK tm K ((o,n,.c (.agg x)) :: ps) l=fillK tm K ps (setRange l o x):=fill_cons tm K l o n (.agg x) ps h h' fun _=>rfl
theorem build_eq (z:List S) (p:List (Nat×Nat×O)) (c:CallK) (r:Ev) (K:V→St→R):h_op3_build z p c r st K=fillK r (fun l=>K (.agg l) st) p z:=rfl
theorem buildS_eq (n z:Nat) (l:List S) (p:List (Nat×Nat×O)) (c:CallK) (r:Ev) (K:V→St→R):h_op3_buildS n z l p c r st K=fillK r (fun l=>K (.sc (.slice st.next 0 n (some n) z)) (Ev.new st l)) p l:=by
 show fillK r (fun l=>allocL st l fun id st=>K (.sc (.slice id 0 n (some n) z)) st) p l=_
 congr 1
 funext l
 rw [allocL_eq];rfl
theorem Sat.new {l:List S}{n z:Nat}{c:Option Nat} (h:l.length=n * z) (hc:∀ m,c=some m→n≤m):Sat (Ev.new st l) (.slice st.next 0 n c z) n z l :=
 ⟨h,.inr ⟨st.next,0,c,_,rfl,hc,by unfold Ev.new;rw [newBlk_get,if_pos rfl],fun i y hy=>by
  have h6:Ev.rd (Ev.new st l) st.next i=some y:=by rw [rd_new,if_pos rfl];exact hy
  unfold Ev.rd Ev.new at h6
  rw [newBlk_get,if_pos rfl] at h6
  rw [Nat.zero_add];exact h6⟩⟩
theorem bound_none (r:Ev) (d t:Nat) (K:Nat→R):boundK r none d t K=K d:=rfl
theorem bound_some (r:Ev) (d t n:Nat) (K:Nat→R) (h:n≤t):boundK r (some (.c (iv n))) d t K=K n:=by
 show iteB (Nat.ble n t) (K n) (.fail 24)=_
 rw [Nat.ble_eq_true_of_le h,iteB_true]
def loOf:Option Nat→Option O
 | none=>none
 | some n=>some (.c (iv n))
theorem bound_loOf (r:Ev) (d t:Nat) (o:Option Nat) (K:Nat→R) (h:o.getD d≤t):boundK r (loOf o) d t K=K (o.getD d):=by
 cases o with
 | none=>rfl
 | some n=>exact bound_some r d t n K h
theorem sliceS_sat {x:S}{n z:Nat}{cs:List S} (h:Sat st x n z cs) (lo hi:Option Nat) (h1:lo.getD 0≤hi.getD n) (h2:hi.getD n≤n) :
  ∃ y,(∀ (c:CallK) (r:Ev) (K:V→St→R),h_op3_sliceS z (.c (.sc x)) (loOf lo) (loOf hi) none c r st K=K (.sc y) st)∧(sid y=none∨sid y=sid x) ∧
   Sat st y (hi.getD n - lo.getD 0) z ((cs.drop (lo.getD 0 * z)).take ((hi.getD n - lo.getD 0) * z)):=by
 obtain ⟨hl,h⟩:=h
 have hlen:((cs.drop (lo.getD 0 * z)).take ((hi.getD n - lo.getD 0) * z)).length=(hi.getD n - lo.getD 0) * z:=by
  rw [List.length_take,List.length_drop,hl,← Nat.sub_mul]
  exact Nat.min_eq_left (Nat.mul_le_mul_right _ (by omega))
 generalize hlo:lo.getD 0=a at *
 generalize hhi:hi.getD n=e at *
 rcases h with ⟨rfl,h⟩ | ⟨id,off,cap,b,rfl,hm,hb,hc⟩
 ·have he:e=0:=by omega
  have ha:a=0:=by omega
  subst he ha
  rcases h with rfl | rfl
  ·refine ⟨.nils,fun c r K=>?_,.inl rfl,hlen,.inl ⟨rfl,.inl rfl⟩⟩
   show cutZ r (loOf lo) (loOf hi) none (K (.sc .nils) st)=_
   unfold cutZ
   rw [bound_none,bound_loOf _ _ _ _ _ (by omega),bound_loOf _ _ _ _ _ (by omega)]
  ·refine ⟨.esl,fun c r K=>?_,.inl rfl,hlen,.inl ⟨rfl,.inr rfl⟩⟩
   show cutZ r (loOf lo) (loOf hi) none (K (.sc .esl) st)=_
   unfold cutZ
   rw [bound_none,bound_loOf _ _ _ _ _ (by omega),bound_loOf _ _ _ _ _ (by omega)]
 have cells:∀ i y,((cs.drop (a * z)).take ((e - a) * z))[i]?=some y→b.cell (off+a * z+i)=some y:=fun i y hy=>by
  have hi:=(List.getElem?_eq_some_iff.1 hy).1
  rw [hlen] at hi
  rw [List.getElem?_take_of_lt hi,List.getElem?_drop] at hy
  rw [Nat.add_assoc];exact hc _ _ hy
 cases cap with
 | some m =>
  have hm:=hm m rfl
  by_cases hml:m=a
  ·refine ⟨.slice id off 0 (some 0) z,fun c r K=>?_,.inr rfl,hlen, ?_⟩
   ·show iteB (Nat.beq z z) (cutKn r z id off n m (loOf lo) (loOf hi) none fun v=>K v st) _=_
    unfold cutKn
    rw [Nat.beq_refl,iteB_true,bound_none,bound_loOf _ _ _ _ _ (by omega),bound_loOf _ _ _ _ _ (by omega),hlo,hml,Nat.beq_refl,iteB_true]
   ·have:e - a=0:=by omega
    rw [this]
    exact .inr ⟨id,off,some 0,b,rfl,fun m h=>Nat.zero_le _,hb,fun i y hy=>by simp at hy⟩
  ·refine ⟨.slice id (off+a * z) (e - a) (some (m - a)) z,fun c r K=>?_,.inr rfl,hlen,.inr ⟨id,_,_,b,rfl,fun m' h=>by cases h;omega,hb,cells⟩⟩
   show iteB (Nat.beq z z) (cutKn r z id off n m (loOf lo) (loOf hi) none fun v=>K v st) _=_
   unfold cutKn
   have hne:Nat.beq m a=false:=by rw [← Bool.not_eq_true];intro hh;exact hml (Nat.eq_of_beq_eq_true hh)
   rw [Nat.beq_refl,iteB_true,bound_none,bound_loOf _ _ _ _ _ (by omega),bound_loOf _ _ _ _ _ (by omega),hlo,hhi,hne,iteB_false,seqN_eq,seqN_eq,seqN_eq]
   rfl
 | none =>
  by_cases ha:a=0
  ·subst ha
   refine ⟨.slice id off e none z,fun c r K=>?_,.inr rfl,hlen,.inr ⟨id,off,none,b,rfl,(fun m h=>by cases h),hb,fun i y hy=>?_⟩⟩
   ·show iteB (Nat.beq z z) (cutUn r z id off n (loOf lo) (loOf hi) fun v=>K v st) _=_
    unfold cutUn
    rw [Nat.beq_refl,iteB_true,bound_loOf _ _ _ _ _ (by omega),bound_loOf _ _ _ _ _ (by omega),hlo,hhi,Nat.beq_refl,iteB_true]
   ·have:=cells i y hy
    rwa [Nat.zero_mul,Nat.add_zero] at this
  by_cases hea:e=a
  ·refine ⟨.esl,fun c r K=>?_,.inl rfl,hlen,.inl ⟨by omega,.inr rfl⟩⟩
   show iteB (Nat.beq z z) (cutUn r z id off n (loOf lo) (loOf hi) fun v=>K v st) _=_
   unfold cutUn
   have h0:Nat.beq a 0=false:=by rw [← Bool.not_eq_true];intro hh;exact ha (Nat.eq_of_beq_eq_true hh)
   rw [Nat.beq_refl,iteB_true,bound_loOf _ _ _ _ _ (by omega),bound_loOf _ _ _ _ _ (by omega),hlo,hhi,h0,iteB_false,hea,Nat.beq_refl,iteB_true]
  ·refine ⟨.slice id (off+a * z) (e - a) none z,fun c r K=>?_,.inr rfl,hlen,.inr ⟨id,_,_,b,rfl,(fun m' h=>by cases h),hb,cells⟩⟩
   show iteB (Nat.beq z z) (cutUn r z id off n (loOf lo) (loOf hi) fun v=>K v st) _=_
   unfold cutUn
   have h0:Nat.beq a 0=false:=by rw [← Bool.not_eq_true];intro hh;exact ha (Nat.eq_of_beq_eq_true hh)
   have h1:Nat.beq e a=false:=by rw [← Bool.not_eq_true];intro hh;exact hea (Nat.eq_of_beq_eq_true hh)
   rw [Nat.beq_refl,iteB_true,bound_loOf _ _ _ _ _ (by omega),bound_loOf _ _ _ _ _ (by omega),hlo,hhi,h0,iteB_false,h1,iteB_false,seqN_eq,seqN_eq]
   rfl
end
section
theorem all2_one {α β:Type}{R:α→β→Prop}{a:α}{b:β} (h:All2 R [a] [b]):R a b:=by
 cases h with
 | cons h _=>exact h
theorem flat_inv {α:Type}{f:α→List S}{z:Nat}:∀ {l:List α}{k:Nat}{x:S},(∀ a∈l,(f a).length=z)→(l.flatMap f)[k]?=some x→∃ i a j,l[i]?=some a∧k=i * z+j∧(f a)[j]?=some x
 | [],k,x,_,h=>by simp at h
 | b :: l,k,x,hf,h=>by
  rw [List.flatMap_cons] at h
  have hb:=hf b List.mem_cons_self
  by_cases hk:k<z
  ·rw [List.getElem?_append_left (by omega)] at h
   exact ⟨0,b,k,rfl,by omega,h⟩
  ·rw [List.getElem?_append_right (by omega),hb] at h
   obtain ⟨i,a,j,h1,h2,h3⟩:=flat_inv (fun a ha=>hf a (List.mem_cons_of_mem _ ha)) h
   exact ⟨i+1,a,j,h1,by rw [Nat.succ_mul];omega,h3⟩
theorem flat_len' {α:Type}{f:α→List S}{z:Nat}:∀ {l:List α},(∀ a∈l,(f a).length=z)→(l.flatMap f).length=l.length * z
 | [],_=>by simp
 | b :: l,h=>by
  rw [List.flatMap_cons,List.length_append,h b List.mem_cons_self,flat_len' (fun a ha=>h a (List.mem_cons_of_mem _ ha)),List.length_cons,Nat.succ_mul,Nat.add_comm]
theorem SlRep.conv {α β:Type}{z:Nat}{Rep:St→List S→α→Prop}{st:St}{l:List S}{as:List α}{f:β→List S}{G:β→Prop} (hz:0<z) (h:SlRep z Rep st l as) (hc:∀ le y,y∈as→Rep st le y→∃ b,le=f b∧G b) :
  ∃ (s:S) (bs:List β),l=[s]∧bs.length=as.length∧bs.length≤maxLen∧Sat st s bs.length z (bs.flatMap f)∧(∀ b∈bs,G b):=by
 obtain ⟨s,id,rfl,h1,h2,⟨h3,h5⟩,h4⟩:=h
 have steps:∀ k,k≤as.length→∃ bs:List β,bs.length=k∧∀ i b,bs[i]?=some b→(f b).length=z∧(∀ j x,(f b)[j]?=some x→rd st id (i * z+j)=some x)∧G b:=by
  intro k
  induction k with
  | zero=>intro _;exact ⟨[],rfl,fun i b hb=>by simp at hb⟩
  | succ k ih =>
   intro hk
   obtain ⟨bs,e1,e2⟩:=ih (by omega)
   have hy:=List.getElem?_eq_getElem (show k<as.length by omega)
   obtain ⟨le,g1,g2,g3⟩:=h4 k _ hy
   obtain ⟨b,rfl,hG⟩:=hc le _ (List.getElem_mem _) g3
   refine ⟨bs ++ [b],by simp [e1],fun i b' hb'=>?_⟩
   by_cases hi:i<bs.length
   ·rw [List.getElem?_append_left hi] at hb';exact e2 i b' hb'
   ·rw [List.getElem?_append_right (by omega)] at hb'
    have hik:i=k:=by have:=(List.getElem?_eq_some_iff.1 hb').1;simp at this;omega
    subst hik
    rw [e1,Nat.sub_self] at hb'
    simp at hb';subst hb'
    exact ⟨g1,g2,hG⟩
 obtain ⟨bs,e1,e2⟩:=steps as.length (Nat.le_refl _)
 have hmem:∀ b∈bs,(f b).length=z∧G b:=fun b hb=>by
  obtain ⟨i,hi⟩:=List.getElem?_of_mem hb
  exact ⟨(e2 i b hi).1,(e2 i b hi).2.2⟩
 refine ⟨s,bs,rfl,e1,by omega,⟨flat_len' fun a ha=>(hmem a ha).1, ?_⟩,fun b hb=>(hmem b hb).2⟩
 rcases Nat.eq_zero_or_pos as.length with h0 | h0
 ·exact .inl ⟨by omega,h3 h0⟩
 ·rcases h1 with ⟨cap,rfl⟩ | ⟨h1,_⟩
  ·have hb0:=List.getElem?_eq_getElem (show 0<bs.length by omega)
   obtain ⟨f1,f2,_⟩:=e2 0 _ hb0
   have hx:=f2 0 _ (List.getElem?_eq_getElem (by omega))
   unfold rd at hx
   cases hb:st.heap.get id with
   | none=>rw [hb] at hx;cases hx
   | some b =>
    rw [e1]
    refine .inr ⟨id,0,cap,b,rfl,fun m hm=>by subst hm;exact h5 _ _ _ _ _ rfl,hb,fun i x hi=>?_⟩
    obtain ⟨i',a,j,k1,k2,k3⟩:=flat_inv (fun a ha=>(hmem a ha).1) hi
    have:=(e2 i' a k1).2.1 j x k3
    unfold rd at this
    rw [hb] at this
    rw [Nat.zero_add,k2];exact this
  ·omega
end
section
variable {st s t:St}{id off i n:Nat}
@[simp] theorem mkA_mk (al lm sm hv:Nat) (hw:List HW) (ll:List LL) (ss:List (Nat×Nat)) (bit:Nat) (K:Mk→R):mkA ⟨al,lm,sm,hv,hw,ll,ss⟩ bit K=K ⟨al ||| bit,lm,sm,hv,hw,ll,ss⟩:=mkA_eq ..
@[simp] theorem mkL_mk (al lm sm hv:Nat) (hw:List HW) (ll:List LL) (ss:List (Nat×Nat)) (bit id:Nat) (re:St→R→R) (K:Mk→R):mkL ⟨al,lm,sm,hv,hw,ll,ss⟩ bit id re K=K ⟨al,lm ||| bit,sm,hv,hw,⟨bit,id,re⟩ :: ll,ss⟩:=mkL_eq ..
@[simp] theorem mkH_mk (al lm sm hv:Nat) (hw:List HW) (ll:List LL) (ss:List (Nat×Nat)) (bit:Nat) (K:Mk→R):mkH ⟨al,lm,sm,hv,hw,ll,ss⟩ bit K=K ⟨al ||| bit,lm,sm,hv ||| bit,hw,ll,ss⟩:=mkH_eq ..
@[simp] theorem i6_eq (n:Nat):i6 n=iv (n:Int):=rfl
@[simp] theorem u6_eq (n:Nat):u6 n=uv n:=rfl
@[simp] theorem u8_eq (n:Nat):u8 n=bv n:=rfl
@[simp] theorem jnD_t1 (a:(V→Mk→St→R)→R) (mk:Mk) (j:V→Mk→St→R):jnD true (bl true) a mk st j=a j:=rfl
@[simp] theorem jnD_t0 (a:(V→Mk→St→R)→R) (mk:Mk) (j:V→Mk→St→R):jnD true (bl false) a mk st j=j (.tup []) mk st:=rfl
@[simp] theorem jnD_f1 (a:(V→Mk→St→R)→R) (mk:Mk) (j:V→Mk→St→R):jnD false (bl true) a mk st j=j (.tup []) mk st:=rfl
@[simp] theorem jnD_f0 (a:(V→Mk→St→R)→R) (mk:Mk) (j:V→Mk→St→R):jnD false (bl false) a mk st j=a j:=rfl
@[simp] theorem dw1_eq (mk:Mk) (bit:Nat) (o:(V→St→R)→R) (K:V→Mk→St→R):dw1 mk bit o K=o fun v st=>mkA mk bit fun mk=>K v mk st:=rfl
theorem okL_all {al lm sm hv:Nat}{ll:List LL}{ss:List (Nat×Nat)}{n0 pre id:Nat} (h1:sub' al pre=true) (h2:sub' sm pre=true):okL ⟨al,lm,sm,hv,[],ll,ss⟩ n0 pre id=true:=by
 show and' true (and' (or' (sub' al pre) (Nat.blt id n0)) (or' (sub' sm pre) (clear pre id ss)))=true
 rw [h1,h2];rfl
theorem okL_low {al lm sm hv:Nat}{ll:List LL}{ss:List (Nat×Nat)}{n0 pre id:Nat} (h1:id<n0) (h2:sub' sm pre=true):okL ⟨al,lm,sm,hv,[],ll,ss⟩ n0 pre id=true:=by
 show and' true (and' (or' (sub' al pre) (Nat.blt id n0)) (or' (sub' sm pre) (clear pre id ss)))=true
 have:Nat.blt id n0=true:=Nat.ble_eq_true_of_le h1
 rw [h2,this];cases sub' al pre <;> rfl
theorem dL_ok {al lm sm hv:Nat}{ll:List LL}{ss:List (Nat×Nat)}{n0 bit pre:Nat}{x:S} (K:V→Mk→St→R) (h:okL ⟨al,lm,sm,hv,[],ll,ss⟩ n0 pre id=true) :
  dL n0 ⟨al,lm,sm,hv,[],ll,ss⟩ bit pre st (.sc (.ptr id off)) K=(rd st id off).elim (ldF st id 7 8) (fun x=>K (.sc x) ⟨al,lm ||| bit,sm,hv,[],⟨bit,id,re1 (.sc (.ptr id off)) (.sc x)⟩ :: ll,ss⟩ st):=by
 show iteB (okL _ n0 pre id) (ld st (.sc (.ptr id off)) fun v=>mkL _ bit id (re1 (.sc (.ptr id off)) v) fun mk=>K v mk st) _=_
 rw [h,iteB_true,ld_eq]
 congr 1
 funext x
 exact mkL_mk ..
@[simp] theorem dL_all {al lm sm hv:Nat}{ll:List LL}{ss:List (Nat×Nat)}{n0 bit pre:Nat} (K:V→Mk→St→R) (h1:sub' al pre=true) (h2:sub' sm pre=true) :
  dL n0 ⟨al,lm,sm,hv,[],ll,ss⟩ bit pre st (.sc (.ptr id off)) K=(rd st id off).elim (ldF st id 7 8) (fun x=>K (.sc x) ⟨al,lm ||| bit,sm,hv,[],⟨bit,id,re1 (.sc (.ptr id off)) (.sc x)⟩ :: ll,ss⟩ st):=dL_ok (x:=.nils) K (okL_all h1 h2)
theorem dL_low {al lm sm hv:Nat}{ll:List LL}{ss:List (Nat×Nat)}{n0 bit pre:Nat} (K:V→Mk→St→R) (h1:id<n0) (h2:sub' sm pre=true) :
  dL n0 ⟨al,lm,sm,hv,[],ll,ss⟩ bit pre st (.sc (.ptr id off)) K=(rd st id off).elim (ldF st id 7 8) (fun x=>K (.sc x) ⟨al,lm ||| bit,sm,hv,[],⟨bit,id,re1 (.sc (.ptr id off)) (.sc x)⟩ :: ll,ss⟩ st):=dL_ok (x:=.nils) K (okL_low h1 h2)
theorem dN_ok {al lm sm hv:Nat}{ll:List LL}{ss:List (Nat×Nat)}{n0 bit pre:Nat} (K:V→Mk→St→R) (h:okL ⟨al,lm,sm,hv,[],ll,ss⟩ n0 pre id=true) :
  dN n0 ⟨al,lm,sm,hv,[],ll,ss⟩ bit pre st (n+1) (.sc (.ptr id off)) K=(rdN st id off (n+1)).elim (ldF st id 6 8) (fun x=>K (.agg x) ⟨al,lm ||| bit,sm,hv,[],⟨bit,id,reN (n+1) (.sc (.ptr id off)) (.agg x)⟩ :: ll,ss⟩ st):=by
 show iteB (okL _ n0 pre id) (lN st (n+1) (.sc (.ptr id off)) fun v=>mkL _ bit id (reN (n+1) (.sc (.ptr id off)) v) fun mk=>K v mk st) _=_
 rw [h,iteB_true,lN_eq]
 congr 1
 funext x
 exact mkL_mk ..
@[simp] theorem dN_all {al lm sm hv:Nat}{ll:List LL}{ss:List (Nat×Nat)}{n0 bit pre:Nat} (K:V→Mk→St→R) (h1:sub' al pre=true) (h2:sub' sm pre=true) :
  dN n0 ⟨al,lm,sm,hv,[],ll,ss⟩ bit pre st (n+1) (.sc (.ptr id off)) K=(rdN st id off (n+1)).elim (ldF st id 6 8) (fun x=>K (.agg x) ⟨al,lm ||| bit,sm,hv,[],⟨bit,id,reN (n+1) (.sc (.ptr id off)) (.agg x)⟩ :: ll,ss⟩ st):=dN_ok K (okL_all h1 h2)
theorem dN_low {al lm sm hv:Nat}{ll:List LL}{ss:List (Nat×Nat)}{n0 bit pre:Nat} (K:V→Mk→St→R) (h1:id<n0) (h2:sub' sm pre=true) :
  dN n0 ⟨al,lm,sm,hv,[],ll,ss⟩ bit pre st (n+1) (.sc (.ptr id off)) K=(rdN st id off (n+1)).elim (ldF st id 6 8) (fun x=>K (.agg x) ⟨al,lm ||| bit,sm,hv,[],⟨bit,id,reN (n+1) (.sc (.ptr id off)) (.agg x)⟩ :: ll,ss⟩ st):=dN_ok K (okL_low h1 h2)
theorem okT_all {al lm sm hv:Nat}{ll:List LL}{ss:List (Nat×Nat)}{n0 pre:Nat} (h1:sub' al pre=true) (h2:sub' lm pre=true) (h3:sub' sm pre=true) (h4:sub' hv pre=true):∀ l,okT ⟨al,lm,sm,hv,[],ll,ss⟩ n0 pre l=true
 | []=>rfl
 | id :: l=>by
  show and' (and' (sub' hv pre) (and' (or' (sub' al pre) (Nat.blt id n0)) (and' (or' (sub' sm pre) (clear pre id ss)) (or' (sub' lm pre) (clearL pre id ll))))) (okT _ n0 pre l)=true
  rw [okT_all h1 h2 h3 h4 l,h1,h2,h3,h4];rfl
theorem app_any {x:S}{n z b k a:Nat}{cs new:List S} (hw:WfS st) (hs:Sat st x n z cs) (hm:Grw a st x n z) (ha:a≤st.next) (hn:new.length=k * z) (hb:(4 * (n+k)+4096) * b≤281474976710656) (hl:n+k≤9223372036854775807) :
  ∃ y st',(∀ K,appendK st z b k new K x=K (.sc y) st')∧Sat st' y (n+k) z (cs ++ new)∧Grw a st' y (n+k) z∧Kp (sid x) st st'∧((k=0∧y=x∧st'=st)∨(sid y=some st.next∧st'.next=st.next+1)):=by
 rcases Nat.eq_zero_or_pos k with rfl | hk
 ·have:new=[]:=List.eq_nil_of_length_eq_zero (by simpa using hn)
  subst this
  exact ⟨x,st,fun K=>append_none hs,by simpa using hs,hm,(Fr.refl hw).kp _,.inl ⟨rfl,rfl,rfl⟩⟩
 ·obtain ⟨y,st',h1,h2,h3,h4,h5,h6⟩:=app_ok hw hs hm ha hn hk hb hl
  exact ⟨y,st',h1,h2,h3,h4,.inr ⟨h5,h6⟩⟩
theorem slIds_sid (x:S) (id:Nat):id∈slIds x↔sid x=some id:=by
 cases x <;> simp [slIds,sid,eq_comm]
theorem app_dw {x y:S}{n z b k a:Nat}{cs new:List S}{al lm sm hv:Nat}{ll:List LL}{ss:List (Nat×Nat)}{n0 bit pre:Nat} (hw:WfS st) (hs:Sat st x n z cs) (hm:Grw a st x n z) (ha:a≤st.next) (hy:Sat st y k z new) (hb:(4 * (n+k)+4096) * b≤281474976710656) (hl:n+k≤9223372036854775807)
  (h1:sub' al pre=true) (h2:sub' lm pre=true) (h3:sub' sm pre=true) (h4:sub' hv pre=true) :
  ∃ v st' ss',(∀ (c:CallK) (ρ:Ev) K,dw5 n0 ⟨al,lm,sm,hv,[],ll,ss⟩ bit pre st (.more (.more (.append z b (.c (.sc x)) (.c (.sc y))))) ρ (fun s q=>xA z b (.sc x) (.sc y) c ρ s q) K=K (.sc v) ⟨al ||| bit,lm,sm ||| bit,hv,[],ll,ss'⟩ st') ∧
   Sat st' v (n+k) z (cs ++ new)∧Grw a st' v (n+k) z∧Kp (sid x) st st'∧((k=0∧v=x)∨sid v=some st.next):=by
 have key:∀ i,(takeP st.heap (slIds x ++ slIds y) .leaf).get i=if i∈slIds x ++ slIds y then st.heap.get i else none:=fun i=>by rw [takeP_get,PM.get_leaf]
 generalize hids:slIds x ++ slIds y=ids at key
 let s1:St:=⟨takeP st.heap ids .leaf,st.next,st.low⟩
 have hw1:WfS s1:=fun id hid=>by
  show (takeP st.heap ids .leaf).get id=none
  rw [key]
  split
  ·exact hw id hid
  ·rfl
 have mem:∀ {w:S}{m:Nat}{cells:List S},(∀ id,sid w=some id→id∈ids)→Sat st w m z cells→Sat s1 w m z cells:=fun hi h=>by
  obtain ⟨e1,e2 | ⟨id,off,c,b,rfl,e3,e4,e5⟩⟩:=h
  ·exact ⟨e1,.inl e2⟩
  ·exact ⟨e1,.inr ⟨id,off,c,b,rfl,e3,(show (takeP st.heap ids .leaf).get id=some b by rw [key,if_pos (hi id rfl)];exact e4),e5⟩⟩
 have hx1:=mem (fun id hi=>by rw [← hids];exact List.mem_append_left _ ((slIds_sid x id).2 hi)) hs
 have hy1:=mem (fun id hi=>by rw [← hids];exact List.mem_append_right _ ((slIds_sid y id).2 hi)) hy
 have hm1:Grw a s1 x n z:=by
  rcases hm with h | ⟨id,b,rfl,e2,e3,e4⟩
  ·exact .inl h
  ·exact .inr ⟨id,b,rfl,e2,(show (takeP st.heap ids .leaf).get id=some b by rw [key,if_pos (by rw [← hids];exact List.mem_append_left _ (List.mem_singleton.2 rfl))];exact e3),e4⟩
 obtain ⟨v,s2,g1,g2,g3,g4,g5⟩:=app_any (b:=b) hw1 hx1 hm1 ha hy1.1 hb hl
 have hnext:s2.next=st.next∨s2.next=st.next+1:=by
  rcases g5 with ⟨_,_,rfl⟩ | ⟨_,h⟩
  ·exact .inl rfl
  ·exact .inr h
 let h':=if s2.next=st.next then takeP s2.heap ids st.heap else takeP s2.heap [st.next] (takeP s2.heap ids st.heap)
 have hget:∀ i,h'.get i=if i∈ids∨(st.next≤i∧i<s2.next) then s2.heap.get i else st.heap.get i:=fun i=>by
  show (if s2.next=st.next then takeP s2.heap ids st.heap else takeP s2.heap [st.next] (takeP s2.heap ids st.heap)).get i=_
  rcases hnext with hn | hn
  ·rw [if_pos hn,takeP_get]
   congr 1
   simp;omega
  ·rw [if_neg (by omega),takeP_get,takeP_get]
   by_cases e1:i=st.next
   ·subst e1;rw [if_pos (List.mem_singleton.2 rfl),if_pos (.inr ⟨Nat.le_refl _,by omega⟩)]
   ·rw [if_neg (by simpa using e1)]
    congr 1
    simp;omega
 have hsv:∀ id,sid v=some id→id∈ids∨(st.next≤id∧id<s2.next):=fun id hi=>by
  rcases g5 with ⟨_,rfl,_⟩ | ⟨h,h5⟩
  ·exact .inl (by rw [← hids];exact List.mem_append_left _ ((slIds_sid v id).2 hi))
  ·rw [h] at hi;cases hi;exact .inr ⟨Nat.le_refl _,by rw [h5];exact Nat.lt_succ_self _⟩
 refine ⟨v,⟨h',s2.next,s2.low⟩,ids.map (fun id=>(bit,id)) ++ ss,fun c ρ K=>?_, ?_, ?_, ?_, ?_⟩
 ·show seqL (slIds x ++ slIds y) (fun ids=>iteB (okT _ n0 pre ids) (takeH st.heap ids .leaf fun h=>xA z b (.sc x) (.sc y) c ρ ⟨h,st.next,st.low⟩ fun v s=>mergeK st ids s fun st=>mkT _ bit ids fun mk=>K v mk st) (.fail 85))=_
  rw [seqL_eq,hids,okT_all h1 h2 h3 h4,iteB_true,takeH_eq]
  show xA z b (.sc x) (.sc y) c ρ s1 _=_
  rw [xA_sat hy1,g1]
  unfold mergeK
  rw [takeH_eq]
  rcases hnext with hn | hn
  ·have hh:h'=takeP s2.heap ids st.heap:=if_pos hn
   rw [hn,Nat.beq_refl,iteB_true]
   show mkT _ _ _ _=_
   rw [mkT_eq,hh]
   rfl
  ·have hh:h'=takeP s2.heap [st.next] (takeP s2.heap ids st.heap):=if_neg (by omega)
   have hf:Nat.beq s2.next st.next=false:=by rw [← Bool.not_eq_true];intro e;have:=Nat.eq_of_beq_eq_true e;omega
   have ht:Nat.beq s2.next (Nat.succ st.next)=true:=by rw [hn];exact Nat.beq_refl _
   rw [hf,iteB_false,ht,iteB_true,takeH_eq]
   show mkT _ _ _ _=_
   rw [mkT_eq,hh]
   rfl
 ·obtain ⟨e1,e2 | ⟨id,off,c,b,rfl,e3,e4,e5⟩⟩:=g2
  ·exact ⟨e1,.inl e2⟩
  ·exact ⟨e1,.inr ⟨id,off,c,b,rfl,e3,(show h'.get id=some b by rw [hget,if_pos (hsv id rfl)];exact e4),e5⟩⟩
 ·rcases g3 with h | ⟨id,b,rfl,e2,e3,e4⟩
  ·exact .inl h
  ·exact .inr ⟨id,b,rfl,e2,(show h'.get id=some b by rw [hget,if_pos (hsv id rfl)];exact e3),e4⟩
 ·refine ⟨g4.next,fun id b ho hb=>?_,fun a ha ho=>g4.low a ha ho,g4.low',fun id hid=>?_⟩
  ·show h'.get id=some b
   rw [hget]
   split
   ·rename_i hc
    rcases hc with hc | hc
    ·exact g4.old id b ho (show (takeP st.heap ids .leaf).get id=some b by rw [key,if_pos hc];exact hb)
    ·rw [hw id hc.1] at hb;cases hb
   ·exact hb
  ·show h'.get id=none
   rw [hget]
   have h6:s2.next≤id:=hid
   split
   ·exact g4.wf id h6
   ·exact hw id (by omega)
 ·rcases g5 with ⟨h,rfl,_⟩ | ⟨h,_⟩
  ·exact .inl ⟨h,rfl⟩
  ·exact .inr h
theorem intLt_b (a b:Int):intLt a b=decide (a<b):=intLt_eq a b
theorem imin2 (a b:Int) (c:CallK) (r:Ev) (K:V→St→R):h_op4_minmax false [(.c (iv a)),(.c (iv b))] c r st K=K (iv (min a b)) st:=by
 show (iteB false (iteB (intLt a b) b a) (iteB (intLt b a) b a) |> fun x=>K (.sc (.int .i64 x)) st)=_
 show K (.sc (.int .i64 (iteB (intLt b a) b a))) st=_
 rw [intLt_b]
 by_cases h:b<a
 ·rw [decide_eq_true h,iteB_true,Int.min_eq_right (by omega)];rfl
 ·rw [decide_eq_false h,iteB_false,Int.min_eq_left (by omega)];rfl
end
section
variable {st s t:St}{id off n i m:Nat}
theorem rd_blk {x:S}{b:Blk} (hb:st.heap.get id=some b):rd st id i=b.cell i:=by unfold rd;rw [hb];rfl
theorem Sat.set {c:Option Nat}{cs:List S} (h:Sat st (.slice id off n c 1) n 1 cs) (ho:Own st id m) (hm:off+n≤m) (hi:i<n) (x:S) :
  Sat (wr st id (off+i) [x]) (.slice id off n c 1) n 1 (cs.set i x):=by
 obtain ⟨h1,h | ⟨id',off',c',b,he,h2,h3,h4⟩⟩:=h
 ·omega
 cases he
 obtain ⟨b',g1,g2,g3⟩:=ho.wr (id:=id) (off:=off+i) (l:=[x])
 refine ⟨by rw [List.length_set];exact h1,.inr ⟨id,off,c,b',rfl,h2,g1,fun j y hy=>?_⟩⟩
 rw [← rd_blk (x:=y) g1,rd_wr ho (by simp;omega)]
 have hj:j<cs.length:=by have:=(List.getElem?_eq_some_iff.1 hy).1;simpa using this
 by_cases hij:j=i
 ·subst hij
  rw [if_pos ⟨rfl,Nat.le_refl _,by simp⟩]
  rw [List.getElem?_set_self (by omega)] at hy
  cases hy;simp
 ·rw [if_neg (by simp;omega)]
  rw [List.getElem?_set_ne (by omega)] at hy
  rw [rd_blk (x:=y) h3];exact h4 j y hy
theorem kp_wr {l:List S} (h:WfS st) (hid:id<st.next):Kp (some id) st (wr st id off l):=by
 unfold wr
 split
 ·rename_i b hb
  refine ⟨Nat.le_refl _,fun id' b' ho hb'=>?_,fun a ha ho=>?_, ?_,fun id' hid'=>?_⟩
  ·rw [putBlk_get,if_neg (fun he=>ho (by rw [he]))];exact hb'
  ·show min st.low a≤min st.low id
   have:=ho id rfl;omega
  ·show min st.low id≤st.low
   omega
  ·have hid2:st.next≤id':=hid'
   rw [putBlk_get,if_neg (by omega)];exact h id' hid2
 ·exact (Fr.refl h).kp _
end
section
variable {st s t:St}{id off n i m:Nat}
@[simp] theorem cnv_u64 (x:Int) (K:V→R) (h:0≤x) (h':x<18446744073709551616):cnv .u64 (iv x) K=K (uv x.toNat):=by
 show intK .u64 x K=_
 rw [intK_eq]
 obtain ⟨n,rfl⟩:=Int.eq_ofNat_of_zero_le h
 have:n<18446744073709551616:=by omega
 rw [wrap_u64 this];rfl
@[simp] theorem cnv_i64 (n:Nat) (K:V→R) (h:n<9223372036854775808):cnv .i64 (uv n) K=K (iv n):=by
 show intK .i64 (n:Int) K=_
 rw [intK_eq,wrap_i64 h];rfl
@[simp] theorem uand (a b:Nat) (K:V→R) (h:a<18446744073709551616) (h':b<18446744073709551616):binK .and (uv a) (uv b) K=K (uv (a &&& b)):=by
 show iteB (Nat.blt a 18446744073709551616) (iteB (Nat.blt b 18446744073709551616) (seqN (Nat.land a b) fun r=>K (.sc (.int .u64 (.ofNat r)))) (.fail 18)) (.fail 18)=_
 have h1:Nat.blt a 18446744073709551616=true:=Nat.ble_eq_true_of_le h
 have h2:Nat.blt b 18446744073709551616=true:=Nat.ble_eq_true_of_le h'
 rw [h1,iteB_true,h2,iteB_true,seqN_eq];rfl
@[simp] theorem ushr (a b:Nat) (c:CallK) (r:Ev) (K:V→St→R) (h:b≤64):xS false (uv a) (uv b) c r st K=K (uv (a / 2 ^ b)) st:=by
 show iteB (intLt (b:Int) 0) (.fail 14) (seqN (Nat.div a (Nat.pow 2 (Nat.min ((b:Int).toNat) 64))) fun n=>K (.sc (.int .u64 (.ofNat n))) st)=_
 rw [intLt_b,decide_eq_false (by omega),iteB_false,seqN_eq]
 have:Nat.min ((b:Int).toNat) 64=b:=by rw [Int.toNat_natCast];exact Nat.min_eq_left h
 rw [this];rfl
@[simp] theorem xE_0s (x:S) (l:List (Bool×List S)) (c:CallK) (r:Ev) (K:V→St→R):xE 0 (.tup ((false,[x]) :: l)) c r st K=K (.sc x) st:=rfl
@[simp] theorem xE_1s (a:Bool×List S) (x:S) (l:List (Bool×List S)) (c:CallK) (r:Ev) (K:V→St→R):xE 1 (.tup (a :: (false,[x]) :: l)) c r st K=K (.sc x) st:=rfl
@[simp] theorem xE_2s (a b:Bool×List S) (x:S) (l:List (Bool×List S)) (c:CallK) (r:Ev) (K:V→St→R):xE 2 (.tup (a :: b :: (false,[x]) :: l)) c r st K=K (.sc x) st:=rfl
@[simp] theorem xE_0a (x:List S) (l:List (Bool×List S)) (c:CallK) (r:Ev) (K:V→St→R):xE 0 (.tup ((true,x) :: l)) c r st K=K (.agg x) st:=rfl
@[simp] theorem xE_1a (a:Bool×List S) (x:List S) (l:List (Bool×List S)) (c:CallK) (r:Ev) (K:V→St→R):xE 1 (.tup (a :: (true,x) :: l)) c r st K=K (.agg x) st:=rfl
@[simp] theorem xE_2a (a b:Bool×List S) (x:List S) (l:List (Bool×List S)) (c:CallK) (r:Ev) (K:V→St→R):xE 2 (.tup (a :: b :: (true,x) :: l)) c r st K=K (.agg x) st:=rfl
theorem Ru.condF {C:Nat→CallK}{a b:HC}{ρ:Ev}{Q:X→Ev→St→Prop} (h:Ru C b ρ st Q):Ru C (.cond (.c (.sc (.bool false))) a b) ρ st Q:=fun tm ht=>by
 obtain ⟨x,t,s,h1,n,h2⟩:=h tm ht
 refine ⟨x,t,s,h1,n+1,fun m hm=>?_⟩
 obtain ⟨k,rfl⟩:=Nat.exists_eq_add_of_le' (Nat.le_trans (by omega) hm:1≤m)
 exact h2 k (by omega)
noncomputable def mkz (st:St) (n z:Nat) (zero:List S):St:=newBlk st ⟨true,n * z,.leaf,zero,.no⟩
theorem xM_eq (z b n m:Nat) (zero:List S) (c:CallK) (r:Ev) (K:V→St→R) (h1:n≤m) (h2:m * b≤1099511627776) (h3:m≤1099511627776) :
  xM z b zero (iv n) (iv m) c r st K=K (.sc (.slice st.next 0 n (some m) z)) (mkz st m z zero):=by
 show iteB (Nat.ble n m) (iteB (Nat.ble (Nat.mul m b) 1099511627776) (iteB (Nat.ble m 1099511627776) (seqN (Nat.mul m z) fun k=>allocK st k .leaf zero fun id st=>K (.sc (.slice id 0 n (some m) z)) st) (.fail 68)) (.fail 68)) (.fail 68)=_
 rw [Nat.ble_eq_true_of_le h1,iteB_true,show Nat.ble (Nat.mul m b) 1099511627776=true from Nat.ble_eq_true_of_le h2,iteB_true,Nat.ble_eq_true_of_le h3,iteB_true,seqN_eq]
 unfold allocK
 rw [seqN_eq,hsetK_eq',PM.setK_eq];rfl
theorem xM_eq' (z b:Nat) (x y:Int) (zero:List S) (c:CallK) (r:Ev) (K:V→St→R) (h0:0≤x) (h1:x≤y) (h2:y.toNat * b≤1099511627776) (h3:y≤1099511627776) :
  xM z b zero (iv x) (iv y) c r st K=K (.sc (.slice st.next 0 x.toNat (some y.toNat) z)) (mkz st y.toNat z zero):=by
 have e:=xM_eq (st:=st) z b x.toNat y.toNat zero c r K (by omega) h2 (by omega)
 rwa [show ((x.toNat:Nat):Int)=x by omega,show ((y.toNat:Nat):Int)=y by omega] at e
@[simp] theorem next_mkz (zero:List S) (z:Nat):(mkz st n z zero).next=st.next+1:=rfl
theorem own_mkz (zero:List S) (z:Nat):Own (mkz st n z zero) st.next (n * z):=⟨_,by unfold mkz;rw [newBlk_get,if_pos rfl],rfl,rfl⟩
theorem fr_mkz (h:Fr s t) (zero:List S) (z:Nat):Fr s (mkz t n z zero):=by
 have hf:=h.wf t.next (Nat.le_refl _)
 refine ⟨Nat.le_trans h.next (Nat.le_succ _),fun id b hb=>?_,h.low,h.low',fun id hid=>?_⟩
 ·unfold mkz
  rw [newBlk_get,if_neg]
  ·exact h.old id b hb
  ·intro he;subst he;have:=h.old _ b hb;rw [hf] at this;cases this
 ·unfold mkz at hid ⊢
  have h2:t.next+1≤id:=hid
  rw [newBlk_get,if_neg (by omega)]
  exact h.wf id (by omega)
theorem rd_mkz (zero:List S) (z id i:Nat):rd (mkz st n z zero) id i=if id=st.next then (if i<n * z then zAt zero i else none) else rd st id i:=by
 unfold rd mkz
 rw [newBlk_get]
 by_cases h:id=st.next
 ·rw [if_pos h,if_pos h]
  simp only [Option.bind_some]
  unfold Blk.cell
  simp only
  by_cases hi:i<n * z
  ·rw [show Nat.blt i (n * z)=true from Nat.ble_eq_true_of_le hi,iteB_true,if_pos hi]
   show orZ _ i (PM.get .leaf i)=_
   rw [PM.get_leaf];rfl
  ·rw [show Nat.blt i (n * z)=false by rw [← Bool.not_eq_true];exact fun hh=>hi (blt_of hh),iteB_false,if_neg hi]
 ·rw [if_neg h,if_neg h]
structure Cpd (st st':St) (id off:Nat) (l:List S):Prop where
 kp:Kp (some id) st st'
 next:st'.next=st.next
 own:∀ id' k,Own st id' k→Own st' id' k
 rd:∀ id' i,rd st' id' i=if id'=id∧off≤i∧i<off+l.length then l[i - off]? else Ev.rd st id' i
theorem wr_next {l:List S}:(wr st id off l).next=st.next:=by unfold wr;split <;> rfl
end
end Go.Proofs.YtkneccbdfpnnlaaGreatDoor.Ev
