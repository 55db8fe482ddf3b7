/- More of the logic: conditions as one truth value, what loops keep, lists that grow. No conditions but those each lemma states. -/
import Derived.Test.YtkneccbdfpnnlaaGreatDoorEvD
namespace Go.Proofs.YtkneccbdfpnnlaaGreatDoor.Ev
set_option linter.unusedSimpArgs false
set_option linter.unusedVariables false
section
section
variable {st:St}
def ltI (a b:Int):Bool:=decide (a<b)
def leI (a b:Int):Bool:=decide (a≤b)
def eqI (a b:Int):Bool:=decide (a=b)
def ltN (a b:Nat):Bool:=decide (a<b)
def leN (a b:Nat):Bool:=decide (a≤b)
def eqN (a b:Nat):Bool:=decide (a=b)
@[simp] theorem ltI_t (a b:Int):(ltI a b=true)=(a<b):=by simp [ltI]
@[simp] theorem ltI_f (a b:Int):(ltI a b=false)=(b≤a):=by simp [ltI]
@[simp] theorem leI_t (a b:Int):(leI a b=true)=(a≤b):=by simp [leI]
@[simp] theorem leI_f (a b:Int):(leI a b=false)=(b<a):=by simp [leI]
@[simp] theorem eqI_t (a b:Int):(eqI a b=true)=(a=b):=by simp [eqI]
@[simp] theorem eqI_f (a b:Int):(eqI a b=false)=¬ (a=b):=by simp [eqI]
@[simp] theorem ltN_t (a b:Nat):(ltN a b=true)=(a<b):=by simp [ltN]
@[simp] theorem ltN_f (a b:Nat):(ltN a b=false)=(b≤a):=by simp [ltN]
@[simp] theorem leN_t (a b:Nat):(leN a b=true)=(a≤b):=by simp [leN]
@[simp] theorem leN_f (a b:Nat):(leN a b=false)=(b<a):=by simp [leN]
@[simp] theorem eqN_t (a b:Nat):(eqN a b=true)=(a=b):=by simp [eqN]
@[simp] theorem eqN_f (a b:Nat):(eqN a b=false)=¬ (a=b):=by simp [eqN]
@[simp] theorem ltI_1 (a b:Int) (h:a<b):ltI a b=true:=by simp [h]
@[simp] theorem ltI_0 (a b:Int) (h:b≤a):ltI a b=false:=by simp [h]
@[simp] theorem leI_1 (a b:Int) (h:a≤b):leI a b=true:=by simp [h]
@[simp] theorem leI_0 (a b:Int) (h:b<a):leI a b=false:=by simp [h]
@[simp] theorem eqI_1 (a b:Int) (h:a=b):eqI a b=true:=by simp [h]
@[simp] theorem eqI_0 (a b:Int) (h:¬ a=b):eqI a b=false:=by simp [h]
@[simp] theorem ltN_1 (a b:Nat) (h:a<b):ltN a b=true:=by simp [h]
@[simp] theorem ltN_0 (a b:Nat) (h:b≤a):ltN a b=false:=by simp [h]
@[simp] theorem leN_1 (a b:Nat) (h:a≤b):leN a b=true:=by simp [h]
@[simp] theorem leN_0 (a b:Nat) (h:b<a):leN a b=false:=by simp [h]
@[simp] theorem eqN_1 (a b:Nat) (h:a=b):eqN a b=true:=by simp [h]
@[simp] theorem eqN_0 (a b:Nat) (h:¬ a=b):eqN a b=false:=by simp [h]
variable (K:V→R)
@[simp 2000] theorem ieql' (a b:Int):binK .eql (iv a) (iv b) K=K (bl (eqI a b)):=ieql a b K
@[simp 2000] theorem ineq' (a b:Int):binK .neq (iv a) (iv b) K=K (bl (!eqI a b)):=(ineq a b K).trans (by congr 3;simp [eqI])
@[simp 2000] theorem ilss' (a b:Int):binK .lss (iv a) (iv b) K=K (bl (ltI a b)):=ilss a b K
@[simp 2000] theorem ileq' (a b:Int):binK .leq (iv a) (iv b) K=K (bl (leI a b)):=ileq a b K
@[simp 2000] theorem igtr' (a b:Int):binK .gtr (iv a) (iv b) K=K (bl (ltI b a)):=igtr a b K
@[simp 2000] theorem igeq' (a b:Int):binK .geq (iv a) (iv b) K=K (bl (leI b a)):=igeq a b K
@[simp 2000] theorem ueql' (a b:Nat):binK .eql (uv a) (uv b) K=K (bl (eqN a b)):=ueql a b K
@[simp 2000] theorem uneq' (a b:Nat):binK .neq (uv a) (uv b) K=K (bl (!eqN a b)):=(uneq a b K).trans (by congr 3;simp [eqN])
@[simp 2000] theorem ulss' (a b:Nat):binK .lss (uv a) (uv b) K=K (bl (ltN a b)):=ulss a b K
@[simp 2000] theorem uleq' (a b:Nat):binK .leq (uv a) (uv b) K=K (bl (leN a b)):=uleq a b K
@[simp 2000] theorem ugtr' (a b:Nat):binK .gtr (uv a) (uv b) K=K (bl (ltN b a)):=ugtr a b K
@[simp 2000] theorem ugeq' (a b:Nat):binK .geq (uv a) (uv b) K=K (bl (leN b a)):=ugeq a b K
@[simp 2000] theorem beql' (a b:Nat):binK .eql (bv a) (bv b) K=K (bl (eqN a b)):=beql a b K
@[simp 2000] theorem bneq' (a b:Nat):binK .neq (bv a) (bv b) K=K (bl (!eqN a b)):=(bneq a b K).trans (by congr 3;simp [eqN])
@[simp 2000] theorem blss' (a b:Nat):binK .lss (bv a) (bv b) K=K (bl (ltN a b)):=blss a b K
@[simp 2000] theorem bleq' (a b:Nat):binK .leq (bv a) (bv b) K=K (bl (leN a b)):=bleq a b K
@[simp 2000] theorem bgtr' (a b:Nat):binK .gtr (bv a) (bv b) K=K (bl (ltN b a)):=bgtr a b K
@[simp 2000] theorem bgeq' (a b:Nat):binK .geq (bv a) (bv b) K=K (bl (leN b a)):=bgeq a b K
def gf (b:Bool) (x:V):V:=bif b then .tup [] else x
def gt (b:Bool) (x:V):V:=bif b then x else .tup []
@[simp] theorem gf_t (x:V):gf true x=.tup []:=rfl
@[simp] theorem gf_f (x:V):gf false x=x:=rfl
@[simp] theorem gt_t (x:V):gt true x=x:=rfl
@[simp] theorem gt_f (x:V):gt false x=.tup []:=rfl
@[simp] theorem gf_gf (b:Bool) (x:V):gf b (gf b x)=gf b x:=by cases b <;> rfl
@[simp] theorem gt_gt (b:Bool) (x:V):gt b (gt b x)=gt b x:=by cases b <;> rfl
variable (j:V→St→R) (b c:Bool) (x y:V)
@[simp] theorem jf_p:jf (bl b) (fun K=>K x) st j=j (gf b x) st:=by cases b <;> rfl
@[simp] theorem jt_p:jt (bl b) (fun K=>K x) st j=j (gt b x) st:=by cases b <;> rfl
@[simp] theorem mf_p:mf (bl b) x st j=j (gf b x) st:=by cases b <;> rfl
@[simp] theorem mt_p:mt (bl b) x st j=j (gt b x) st:=by cases b <;> rfl
variable {j b c x y K}
@[congr] theorem jf_congr {o o':(V→R)→R} (h:b=false→∀ k,o k=o' k):jf (bl b) o st j=jf (bl b) o' st j:=by
 cases b
 ·show o _=o' _;exact h rfl _
 ·rfl
@[congr] theorem jt_congr {o o':(V→R)→R} (h:b=true→∀ k,o k=o' k):jt (bl b) o st j=jt (bl b) o' st j:=by
 cases b
 ·rfl
 ·show o _=o' _;exact h rfl _
@[simp] theorem jt_gf (o:(V→R)→R):jt (gf b (bl c)) o st j=jt (bl (!b && c)) o st j:=by cases b <;> rfl
@[simp] theorem jt_gt (o:(V→R)→R):jt (gt b (bl c)) o st j=jt (bl (b && c)) o st j:=by cases b <;> rfl
@[simp] theorem jf_gf (o:(V→R)→R):jf (gf b (bl c)) o st j=jf (bl (b || c)) o st j:=by cases b <;> rfl
@[simp] theorem jf_gt (o:(V→R)→R):jf (gt b (bl c)) o st j=jf (bl (!b || c)) o st j:=by cases b <;> rfl
@[simp] theorem mt_gf:mt (gf b (bl c)) x st j=mt (bl (!b && c)) x st j:=by cases b <;> rfl
@[simp] theorem mt_gt:mt (gt b (bl c)) x st j=mt (bl (b && c)) x st j:=by cases b <;> rfl
@[simp] theorem mf_gf:mf (gf b (bl c)) x st j=mf (bl (b || c)) x st j:=by cases b <;> rfl
@[simp] theorem mf_gt:mf (gt b (bl c)) x st j=mf (bl (!b || c)) x st j:=by cases b <;> rfl
@[simp] theorem pck_or:pck (bl b) (bl true) (gf b (bl c)) K=K (bl (b || c)):=by cases b <;> rfl
@[simp] theorem pck_and:pck (bl b) (gt b (bl c)) (bl false) K=K (bl (b && c)):=by cases b <;> rfl
end
@[simp] theorem is_fold (x:Int):S.int .i64 x=is x:=rfl
theorem idxV_sc {st:St}{len j:Nat}{l:List S}{x:S} (c:CallK) (r:Ev) (K:V→St→R) (h:j<len) (hx:l[j]?=some x):h_op2_idxV len 1 false (.c (.agg l)) (.c (iv j)) c r st K=K (.sc x) st:=by
 show iteB (Nat.blt j len) (Option.rec (motive:=fun _=>R) (.fail 72) (fun s=>K (.sc s) st) (l[j * 1]?)) (.fail 79)=_
 rw [show Nat.blt j len=true from Nat.ble_eq_true_of_le h,iteB_true,Nat.mul_one,hx]
theorem okH_all {al lm sm hv:Nat}{ll:List LL}{ss:List (Nat×Nat)}{pre:Nat} (h1:sub' al pre=true) (h2:sub' sm pre=true):okH ⟨al,lm,sm,hv,[],ll,ss⟩ pre=true:=by
 show and' true (and' (sub' sm pre) (sub' al pre))=true
 rw [h1,h2];rfl
@[simp] theorem dw2_all {id off:Nat}{al lm sm hv:Nat}{ll:List LL}{ss:List (Nat×Nat)}{n0 bit pre:Nat} (o:(V→St→R)→R) (K:V→Mk→St→R) (h1:sub' al pre=true) (h2:sub' sm pre=true) :
  dw2 n0 ⟨al,lm,sm,hv,[],ll,ss⟩ bit pre (.sc (.ptr id off)) o K=o fun v st=>K v ⟨al,lm ||| bit,sm,hv,[],⟨bit,id,re0 v⟩ :: ll,ss⟩ st:=by
 show iteB (okL _ n0 pre id) (o fun v st=>mkL _ bit id (re0 v) fun mk=>K v mk st) _=_
 rw [okL_all h1 h2,iteB_true]
 congr 1
 funext v st
 exact mkL_mk ..
theorem sat_of_rd' {st:St}{id off z k:Nat}{o:Option Nat}{cs:List S} (h0:0<k * z) (hl:cs.length=k * z) (hc:∀ m,o=some m→k≤m) (h:∀ i x,cs[i]?=some x→Ev.rd st id (off+i)=some x):Sat st (.slice id off k o z) k z cs:=by
 have h1:=h 0 _ (List.getElem?_eq_getElem (by omega))
 unfold Ev.rd at h1
 cases hb:st.heap.get id with
 | none=>rw [hb] at h1;cases h1
 | some b=>exact ⟨hl,.inr ⟨id,off,o,b,rfl,hc,hb,fun i x hx=>by have h2:=h i x hx;unfold Ev.rd at h2;rw [hb] at h2;exact h2⟩⟩
theorem Own.fr {s t:St}{id n:Nat} (h:Own s id n) (k:Fr s t):Own t id n:=by
 obtain ⟨b,h1,h2⟩:=h;exact ⟨b,k.old id b h1,h2⟩
theorem Own.kp {s t:St}{id n:Nat}{o:Option Nat} (h:Own s id n) (k:Kp o s t) (ho:o≠some id):Own t id n:=by
 obtain ⟨b,h1,h2⟩:=h;exact ⟨b,k.old id b ho h1,h2⟩
theorem Rg.dc {C:Nat→CallK}{s:St}{al lm sm hv:Nat}{ll:List LL}{ss:List (Nat×Nat)}{bit pre f:Nat}{args:List V} (P1:V→Prop) {P:List V→St→Prop}{G:CallK→(List V→St→R)→V→Mk→St→R} (hw:WfS s) (h1:sub' al pre=true) (h2:sub' sm pre=true)
  (h:Ca C f args (setLow s s.next) (fun v s'=>Fr (setLow s s.next) s'∧P1 v)) (k:∀ v s',Fr s s'→P1 v→Rg C (fun c K=>G c K v ⟨al ||| bit,lm,sm,hv ||| bit,[],ll,ss⟩ s') P):Rg C (fun c K=>Ev.dw3 ⟨al,lm,sm,hv,[],ll,ss⟩ bit pre s (fun s q=>c f args s q) (G c K)) P :=
 Rg.dw3 hw (okH_all h1 h2) h fun v s' k1 k2=>by simp only [mkH_mk];exact k v s' k1 k2
theorem Rg.imp {C:Nat→CallK}{X:CallK→(List V→St→R)→R}{P P':List V→St→Prop} (h:Rg C X P) (hp:∀ l s,P l s→P' l s):Rg C X P':=by
 obtain ⟨l,s,h1,h2⟩:=h;exact ⟨l,s,hp l s h1,h2⟩
theorem Rg.hide {C:Nat→CallK}{X:CallK→(List V→St→R)→R}{P:List V→St→Prop} (h:∀ P':List V→St→Prop,(∀ l s,P l s→P' l s)→Rg C X P'):Rg C X P:=h P fun l s h=>h
section
variable {C:Nat→CallK}{ρ:Ev}{st:St}{Q:X→Ev→St→Prop}{b:HC}{f:RF}{outs:List Pth}
theorem Ru.rs (h:∀ P:List V→St→Prop,(∀ l s,Ru C b (updE outs l ρ) s Q→P l s)→Rg C (fun c K=>f c ρ st K) P):Ru C (.seq (.reg outs f) b) ρ st Q:=Ru.sreg (h _ fun l s h=>h)
theorem Ru.ds (h:∀ P:List V→St→Prop,(∀ l s,Ru C b (updE outs l ρ) s Q→P l s)→Rg C (fun c K=>f c ρ st K) P):Ru C (.seq (.drw outs f) b) ρ st Q:=Ru.sdrw (h _ fun l s h=>h)
theorem Ru.r1 (h:∀ P:List V→St→Prop,(∀ l s,Q .normal (updE outs l ρ) s→P l s)→Rg C (fun c K=>f c ρ st K) P):Ru C (.reg outs f) ρ st Q:=Ru.reg (h _ fun l s h=>h)
theorem Ru.d1 (h:∀ P:List V→St→Prop,(∀ l s,Q .normal (updE outs l ρ) s→P l s)→Rg C (fun c K=>f c ρ st K) P):Ru C (.drw outs f) ρ st Q:=Ru.drw (h _ fun l s h=>h)
end
end
section
noncomputable def qmem (q:Pth) (l:List Pth):Bool:=List.rec (motive:=fun _=>Bool) false (fun p _ ih=>or' (pthEq q p) ih) l
noncomputable def qsub (l m:List Pth):Bool:=List.rec (motive:=fun _=>Bool) true (fun p _ ih=>and' (qmem p m) ih) l
noncomputable def qoff (l m:List Pth):Bool:=List.rec (motive:=fun _=>Bool) true (fun p _ ih=>and' (iteB (qmem p m) false true) ih) l
def Keep (l:List Pth) (ρ' ρ:Ev):Prop:=∀ q,qmem q l=true→ρ' q=ρ q
theorem Keep.e {l:List Pth}{ρ' ρ:Ev} (h:Keep l ρ' ρ):∀ q,qmem q l=true→ρ' q=ρ q:=h
theorem Keep.refl (l:List Pth) (ρ:Ev):Keep l ρ ρ:=fun _ _=>rfl
theorem qmem_iff {q:Pth}:∀ {l:List Pth},qmem q l=true↔q∈l
 | []=>⟨fun h=>(by cases h),fun h=>(by cases h)⟩
 | p :: l=>by
  show or' (pthEq q p) (qmem q l)=true↔_
  rw [List.mem_cons,← qmem_iff (l:=l),← pthEq_iff]
  cases pthEq q p <;> cases qmem q l <;> simp [or']
theorem qsub_iff {m:List Pth}:∀ {l:List Pth},qsub l m=true→∀ q∈l,q∈m
 | [],_=>fun q h=>by cases h
 | p :: l,h=>by
  have h:and' (qmem p m) (qsub l m)=true:=h
  have h1:qmem p m=true∧qsub l m=true:=by
   cases h1:qmem p m <;> cases h2:qsub l m <;> rw [h1,h2] at h <;> first | exact ⟨rfl,rfl⟩ | cases h
  intro q hq
  rcases List.mem_cons.1 hq with rfl | hq
  ·exact qmem_iff.1 h1.1
  ·exact qsub_iff h1.2 q hq
theorem qoff_iff {m:List Pth}:∀ {l:List Pth},qoff l m=true→∀ q∈l,q ∉ m
 | [],_=>fun q h=>by cases h
 | p :: l,h=>by
  have h:and' (iteB (qmem p m) false true) (qoff l m)=true:=h
  have h1:qmem p m=false∧qoff l m=true:=by
   cases h1:qmem p m <;> cases h2:qoff l m <;> rw [h1,h2] at h <;> first | exact ⟨rfl,rfl⟩ | cases h
  intro q hq
  rcases List.mem_cons.1 hq with rfl | hq
  ·intro hm;rw [qmem_iff.2 hm] at h1;cases h1.1
  ·exact qoff_iff h1.2 q hq
theorem updE_off:∀ {outs:List Pth}{vs:List V}{ρ:Ev}{q:Pth},q ∉ outs→updE outs vs ρ q=ρ q
 | [],_,_,_,_=>rfl
 | _ :: _,[],_,_,_=>rfl
 | p :: ps,v :: vs,ρ,q,h=>by
  rw [updE_cons,updE_off (fun hq=>h (List.mem_cons_of_mem _ hq)),upd_other _ _ (fun he=>h (by rw [he];exact List.mem_cons_self))]
theorem Keep.up {l outs:List Pth}{vs:List V}{ρ1 ρ:Ev} (hs:qoff outs l=true) (h:Keep l ρ1 ρ):Keep l (updE outs vs ρ1) ρ:=fun q hq=>by
 rw [updE_off (fun ho=>qoff_iff hs q ho (qmem_iff.1 hq))];exact h q hq
theorem Keep.via {l m:List Pth}{ρ2 ρ1 ρ:Ev} (hs:qsub l m=true) (k:Keep m ρ2 ρ1) (h:Keep l ρ1 ρ):Keep l ρ2 ρ:=fun q hq=>by
 rw [k q (qmem_iff.2 (qsub_iff hs q (qmem_iff.1 hq)))];exact h q hq
theorem Ru.lp {C:Nat→CallK}{α:Type} (l:List Pth) (m:α→Nat) (I:α→Ev→St→Prop) {b:HC}{ρ:Ev}{st:St}{Q:X→Ev→St→Prop}
  (hI:∃ a,I a ρ st) (h:∀ a ρ' s,Keep l ρ' ρ→I a ρ' s→Ru C b ρ' s (Then (fun ρ'' s=>Keep l ρ'' ρ∧∃ a',m a'<m a∧I a' ρ'' s) Q)):Ru C (.loop b) ρ st Q:=by
 obtain ⟨a,ha⟩:=hI
 refine Ru.loop m (fun a ρ' s=>Keep l ρ' ρ∧I a ρ' s) ⟨a,Keep.refl _ _,ha⟩ fun a ρ' s hI=>?_
 refine (h a ρ' s hI.1 hI.2).imp fun x ρ'' s hx=>?_
 cases x with
 | normal=>obtain ⟨h1,a',h2,h3⟩:=hx;exact ⟨a',h2,h1,h3⟩
 | exit i=>exact hx
 | ret=>exact hx
theorem Ru.at {C:Nat→CallK}{b:HC}{ρ:Ev}{st:St}{Q:X→Ev→St→Prop} (I:Ev→Prop) (hI:I ρ) (h:∀ ρ,I ρ→Ru C b ρ st Q):Ru C b ρ st Q:=h _ hI
end
section
theorem app_build {a st:St}{y:S}{n z b k:Nat}{cs nc:List S} (hf:Fr a st) (ha:WfS a) (hs:Sat st y n z cs) (hg:Grw a.next st y n z) (hk:0<k) (hn:nc.length=k * z) (hb:(4 * (n+k)+4096) * b≤281474976710656) (hl:n+k≤9223372036854775807) :
  ∃ y' st',(∀ (c:CallK) (r:Ev) (K:V→St→R),xA z b (.sc y) (.sc (.slice st.next 0 k (some k) z)) c r (new st nc) K=K (.sc y') st')∧Fr a st'∧Sat st' y' (n+k) z (cs ++ nc)∧Grw a.next st' y' (n+k) z∧Kp (sid y) st st'∧sid y'=some (st.next+1)∧st'.next=st.next+2:=by
 have f1:Fr st (new st nc):=(Fr.refl hf.wf).new _
 have hs1:Sat (new st nc) (.slice st.next 0 k (some k) z) k z nc:=Sat.new hn fun m h=>by cases h;exact Nat.le_refl _
 obtain ⟨y2,s2,hA,g1,g2,g3,g4,g5⟩:=app_ok (b:=b) f1.wf (hs.fr f1) (hg.fr f1) (Nat.le_trans hf.next f1.next) hs1.1 hk hb hl
 refine ⟨y2,s2,fun c r K=>?_,g3.fr (hf.trans f1) hg.sid ha,g1,g2,((Fr.refl hf.wf).new nc |>.kp _).trans g3,g4,g5⟩
 rw [xA_sat hs1,hA]
end
section
variable {s t st:St}{id i n:Nat}{l:List S}
structure Bx (s:St) (id:Nat) (l:List S):Prop where
 own:Own s id l.length
 rd:∀ i y,l[i]?=some y→rd s id i=some y
 lt:id<s.next
theorem Bx.fr (h:Bx s id l) (k:Fr s t):Bx t id l:=⟨h.own.fr k,fun i y hy=>k.rd (h.rd i y hy),Nat.lt_of_lt_of_le h.lt k.next⟩
theorem Bx.kp {o:Option Nat} (h:Bx s id l) (k:Kp o s t) (ho:o≠some id):Bx t id l:=⟨h.own.kp k ho,fun i y hy=>k.rd ho (h.rd i y hy),Nat.lt_of_lt_of_le h.lt k.next⟩
theorem Bx.new:Bx (new s l) s.next l:=⟨Own.new,fun i y hy=>by rw [rd_new,if_pos rfl];exact hy,by simp⟩
theorem Bx.mk' {z:List S} (h:l.length=z.length):Bx (wr (Ev.new s z) s.next 0 l) s.next l:=by
 refine ⟨?_,fun i y hy=>by rw [rd_mk h,if_pos rfl];exact hy,by simp⟩
 have:=Own.wr (id:=s.next) (off:=0) (l:=l) (Own.new (st:=s) (l:=z))
 rw [h];exact this
theorem Bx.N (h:Bx s id l) (hn:l.length=n):rdN s id 0 n=some l:=rdN_get hn fun i x hx=>by rw [Nat.zero_add];exact h.rd i x hx
theorem Bx.sto (h:Bx s id l) (hi:i<l.length) (x:S) (K:St→R):sto s 1 (.sc (.ptr id i)) (.sc x) K=K (wr s id i [x]):=sto_sc K h.own (by omega)
theorem Bx.set (h:Bx s id l) (hi:i<l.length) (x:S):Bx (wr s id i [x]) id (l.set i x):=by
 refine ⟨by rw [List.length_set];exact h.own.wr,fun j y hy=>?_,by rw [wr_next];exact h.lt⟩
 rw [rd_wr h.own (by simp;omega)]
 by_cases hij:j=i
 ·subst hij
  rw [if_pos ⟨rfl,Nat.le_refl _,by simp⟩]
  rw [List.getElem?_set_self hi] at hy
  cases hy;simp
 ·rw [if_neg (by simp;omega)]
  rw [List.getElem?_set_ne (by omega)] at hy
  exact h.rd j y hy
theorem Bx.kpw (h:Bx s id l) (hw:WfS s) (x:List S):Kp (some id) s (wr s id i x):=kp_wr hw h.lt
theorem Bx.stoN (h:Bx s id l) {l':List S} (hn:l'.length=n) (hl:l.length=n) (K:St→R):Ev.sto s n (.sc (.ptr id 0)) (.agg l') K=K (wr s id 0 l'):=by
 subst hn
 exact sto_agg K h.own (by omega)
theorem Bx.setN (h:Bx s id l) {l':List S} (hl:l'.length=l.length):Bx (wr s id 0 l') id l':=by
 refine ⟨by rw [hl];exact h.own.wr,fun j y hy=>?_,by rw [wr_next];exact h.lt⟩
 have hj:=(List.getElem?_eq_some_iff.1 hy).1
 rw [rd_wr h.own (by omega),if_pos ⟨rfl,Nat.zero_le _,by omega⟩]
 exact hy
theorem resP.cellsTmp {p q:Pth}{n:Nat}{ρ:Ev}{st:St}{P:V→St→Prop}{id off:Nat}{l:List S}{b:S} (hp:ρ p=.sc (.ptr id off)) (hr:rdN st id off (n+1)=some l) (hb:ρ q=.sc b) (h:P (.tup [(true,l),(false,[b])]) st):resP [.cellN (n+1) p,.tmp q] ρ st P :=
 ⟨_,h,fun K tm ht=>by
  show asPtr 91 (rho tm p) (fun id off=>loadNK st (n+1) id off fun v=>fin1 K st [v,rho tm q])=_
  rw [ht,hp,hb]
  show loadNK st (n+1) id off _=_
  rw [loadNK_eq,hr];rfl⟩
end
section
variable {st s t:St}{id off i n:Nat}
theorem Out.hit {i:Nat}{Q:X→Ev→St→Prop}{ρ:Ev}{s:St} (h:Q .normal ρ s):Out i Q (.exit i) ρ s:=by
 show (if i=i then Q .normal else Q (.exit i)) ρ s
 rw [if_pos rfl];exact h
theorem ne_some {a b:Nat} (h:a≠b):some a≠some b:=fun he=>by cases he;exact h rfl
theorem clearL_all {pre id:Nat}:∀ {l:List LL},(∀ p∈l,p.id≠id∨sub' p.bit pre=true)→clearL pre id l=true
 | [],_=>rfl
 | p :: l,h=>by
  have ih:=clearL_all fun q hq=>h q (List.mem_cons_of_mem _ hq)
  show iteB (Nat.beq p.id id) (and' (sub' p.bit pre) (clearL pre id l)) (clearL pre id l)=true
  rw [iteB_eq,ih]
  split
  ·rename_i he
   rcases h p List.mem_cons_self with h1 | h1
   ·exact absurd (Nat.eq_of_beq_eq_true he) h1
   ·rw [h1];rfl
  ·rfl
theorem okS_of {al lm sm hv:Nat}{ll:List LL}{ss:List (Nat×Nat)}{n0 pre id:Nat} (h1:sub' hv pre=true) (h2:sub' al pre=true∨id<n0) (h3:sub' sm pre=true∨clear pre id ss=true) (h4:sub' lm pre=true∨clearL pre id ll=true):okS ⟨al,lm,sm,hv,[],ll,ss⟩ n0 pre id=true:=by
 show and' (sub' hv pre) (and' (or' (sub' al pre) (Nat.blt id n0)) (and' (or' (sub' sm pre) (clear pre id ss)) (or' (sub' lm pre) (clearL pre id ll))))=true
 have e2:or' (sub' al pre) (Nat.blt id n0)=true:=by
  rcases h2 with h | h
  ·rw [h];rfl
  ·rw [show Nat.blt id n0=true from Nat.ble_eq_true_of_le h];cases sub' al pre <;> rfl
 have e3:or' (sub' sm pre) (clear pre id ss)=true:=by
  rcases h3 with h | h
  ·rw [h];rfl
  ·rw [h];cases sub' sm pre <;> rfl
 have e4:or' (sub' lm pre) (clearL pre id ll)=true:=by
  rcases h4 with h | h
  ·rw [h];rfl
  ·rw [h];cases sub' lm pre <;> rfl
 rw [h1,e2,e3,e4];rfl
theorem okS_t {al lm sm hv:Nat}{ll:List LL}{ss:List (Nat×Nat)}{n0 pre id:Nat} (h1:and' (sub' hv pre) (and' (sub' al pre) (sub' sm pre))=true) (h4:∀ p∈ll,p.id≠id∨sub' p.bit pre=true):okS ⟨al,lm,sm,hv,[],ll,ss⟩ n0 pre id=true:=by
 have h:sub' hv pre=true∧sub' al pre=true∧sub' sm pre=true:=by
  revert h1
  cases sub' hv pre <;> cases sub' al pre <;> cases sub' sm pre <;> intro h1 <;> first | exact ⟨rfl,rfl,rfl⟩ | cases h1
 exact okS_of h.1 (.inl h.2.1) (.inl h.2.2) (.inr (clearL_all h4))
theorem dS_ok {al lm sm hv:Nat}{ll:List LL}{ss:List (Nat×Nat)}{n0 bit pre:Nat} (ho:Own st id n) (hm:off+1≤n) (x:S) (K:V→Mk→St→R) (h:okS ⟨al,lm,sm,hv,[],ll,ss⟩ n0 pre id=true) :
  dS n0 ⟨al,lm,sm,hv,[],ll,ss⟩ bit pre st 1 (.sc (.ptr id off)) (.sc x) K=K undefV ⟨al,lm,sm ||| bit,hv,[],ll,(bit,id) :: ss⟩ (wr st id off [x]):=by
 show iteB (okS _ n0 pre id) (sto st 1 (.sc (.ptr id off)) (.sc x) (fun st=>mkS _ bit id fun mk=>K undefV mk st)) (.fail 88)=_
 rw [h,iteB_true,sto_sc _ ho hm]
 show mkS _ bit id _=_
 rw [mkS_eq];rfl
theorem uncap_caps (f:Nat) (hf:Nat.blt f yBase=true):∀ l:List S,uncap (capsOf f l)=some (f,l.map V.sc)
 | []=>by show uncap (.fn f)=_;unfold uncap;rw [hf];rfl
 | x :: r=>by
  show uncap (.cap x (capsOf f r))=_
  unfold uncap
  rw [uncap_caps f hf r]
  show (match Nat.blt f yBase with | true=>some (f,V.sc x :: r.map V.sc) | false=>none)=_
  rw [hf];rfl
def IntK (x y:S):Prop:=∃ k m n,x=.int k m∧y=.int k n
theorem eqL_ints {a b:List S} (h:All2 IntK a b):∃ e,eqL (List.replicate a.length 1) a b=some e∧(e=true↔a=b):=by
 induction h with
 | nil=>exact ⟨true,rfl,by simp⟩
 | @cons x y a b hx _ ih =>
  obtain ⟨k,m,n,rfl,rfl⟩:=hx
  obtain ⟨e,h1,h2⟩:=ih
  have e1:eqS1 1 (.int k m) (.int k n)=some (intEq m n):=by
   show (if Nat.beq (kindN k) (kindN k)=true then some (intEq m n) else none)=_
   rw [Nat.beq_refl];rfl
  show ∃ e,(match eqS1 1 (.int k m) (.int k n) with | some true=>eqL (List.replicate a.length 1) a b | some false=>some false | none=>none)=some e∧_
  rw [e1]
  cases hmn:intEq m n with
  | true =>
   have:m=n:=by rw [intEq_eq] at hmn;simpa using hmn
   subst this
   exact ⟨e,h1,by simp [h2]⟩
  | false =>
   have:m≠n:=by rw [intEq_eq] at hmn;simpa using hmn
   exact ⟨false,rfl,by simp [this]⟩
end
section
variable {st s t:St}{n i id off:Nat}
@[simp] theorem cnv_u8 (n:Nat) (K:V→R):cnv .u8 (uv n) K=K (bv (n % 256)):=by
 show intK .u8 (n:Int) K=_
 rw [intK_eq]
 have h:IntKind.u8.wrap (n:Int)=((n % 256:Nat):Int):=by
  unfold IntKind.wrap
  simp [IntKind.bits,IntKind.signed]
 rw [h];rfl
theorem umin2 (a b:Nat) (c:CallK) (r:Ev) (K:V→St→R):h_op4_minmax false [(.c (uv a)),(.c (uv b))] c r st K=K (uv (min a b)) st:=by
 show K (.sc (.int .u64 (iteB (intLt (b:Int) (a:Int)) (b:Int) (a:Int)))) st=_
 rw [intLt_b]
 by_cases h:b<a
 ·rw [decide_eq_true (by omega),iteB_true,Nat.min_eq_right (by omega)];rfl
 ·rw [decide_eq_false (by omega),iteB_false,Nat.min_eq_left (by omega)];rfl
@[simp] theorem ixA_u (len z:Nat) {x:Nat} (K:V→R) (h':x<len):ixA len z (.sc (.ptr id off)) (uv x) K=K (.sc (.ptr id (off+x * z))):=by
 have h1:Nat.blt x len=true:=Nat.ble_eq_true_of_le h'
 show iteB (Nat.blt x len) (seqN (Nat.add off (Nat.mul x z)) fun o=>K (.sc (.ptr id o))) (.fail 74)=_
 rw [h1,iteB_true,seqN_eq];rfl
theorem dS_agg {al lm sm hv:Nat}{ll:List LL}{ss:List (Nat×Nat)}{n0 bit pre m:Nat}{l:List S} (ho:Own st id n) (hm:off+l.length≤n) (hl:l.length=m) (K:V→Mk→St→R) (h:okS ⟨al,lm,sm,hv,[],ll,ss⟩ n0 pre id=true) :
  dS n0 ⟨al,lm,sm,hv,[],ll,ss⟩ bit pre st m (.sc (.ptr id off)) (.agg l) K=K undefV ⟨al,lm,sm ||| bit,hv,[],ll,(bit,id) :: ss⟩ (wr st id off l):=by
 subst hl
 show iteB (okS _ n0 pre id) (sto st l.length (.sc (.ptr id off)) (.agg l) (fun st=>mkS _ bit id fun mk=>K undefV mk st)) (.fail 88)=_
 rw [h,iteB_true,sto_agg _ ho hm]
 show mkS _ bit id _=_
 rw [mkS_eq];rfl
end
section
variable {st s t:St}{n i id off:Nat}
theorem resP.cells {q:Pth}{n:Nat}{ρ:Ev}{st:St}{P:V→St→Prop}{id off:Nat}{l:List S} (hp:ρ q=.sc (.ptr id off)) (hr:rdN st id off (n+1)=some l) (h:P (.agg l) st):resP [.cellN (n+1) q] ρ st P :=
 ⟨_,h,fun K tm ht=>by
  show asPtr 91 (rho tm q) (fun id off=>loadNK st (n+1) id off fun v=>fin1 K st [v])=_
  rw [ht,hp]
  show loadNK st (n+1) id off _=_
  rw [loadNK_eq,hr];rfl⟩
abbrev fC (f:Nat→Nat):List S:=[us (f 0),us (f 1),us (f 2),us (f 3)]
abbrev mC (P g:Nat) (five:Bool):List S:=[us P,us g,.bool five]
theorem Rg.dn {C:Nat→CallK}{s:St}{al lm sm hv:Nat}{ll:List LL}{ss:List (Nat×Nat)}{bit pre f:Nat}{args:List V} (P1:V→St→Prop) {P:List V→St→Prop}{G:CallK→(List V→St→R)→V→Mk→St→R} (hr:∀ v h nx a b,P1 v ⟨h,nx,a⟩→P1 v ⟨h,nx,b⟩) (hw:WfS s) (h1:sub' al pre=true) (h2:sub' sm pre=true)
  (h:Ca C f args (setLow s s.next) (fun v s'=>Fr (setLow s s.next) s'∧P1 v s')) (k:∀ v s',Fr s s'→P1 v s'→Rg C (fun c K=>G c K v ⟨al ||| bit,lm,sm,hv ||| bit,[],ll,ss⟩ s') P):Rg C (fun c K=>Ev.dw3 ⟨al,lm,sm,hv,[],ll,ss⟩ bit pre s (fun s q=>c f args s q) (G c K)) P:=by
 obtain ⟨v,s',⟨k1,k2⟩,n,h3⟩:=h
 have hF:=Fr.setLow (h:=hw) k1
 obtain ⟨l,s2,h4,n',h5⟩:=k v _ hF (by cases s';exact hr _ _ _ _ _ k2)
 refine ⟨l,s2,h4,max n n',fun x hx K=>?_⟩
 show iteB (okH _ pre) (C x f args (setLow s s.next) fun v st'=>heavyK s.next s.low s pre bit _ (fun mk st=>G (C x) K v mk st) st') (.fail 89)=_
 rw [okH_all h1 h2,iteB_true,h3 x (by omega)]
 have hl:s.next≤s'.low:=by have:=k1.low;cases s;simpa [Ev.setLow] using this
 rw [← h5 x (by omega) K]
 cases s' with
 | mk hp nx lo =>
  show iteB (Nat.blt lo s.next) _ (mkH _ bit fun mk=>G (C x) K v mk ⟨hp,nx,s.low⟩)=_
  have:Nat.blt lo s.next=false:=by rw [← Bool.not_eq_true];intro hh;have:=blt_of hh;simp at hl;omega
  rw [this,iteB_false,mkH_mk]
noncomputable def hRound (pw:Nat):HF:=⟨
(.seq (.reg [q3,q5,q6,q7] fun c r s K=>bxx s (r q0) fun v0 s=>bxx s (r q2) fun v1 s=>alc s [zu,zu,zu,zu] fun v2 s=>K [v0,v1,U0,v2] s)
 (.seq (.seq (.reg [q10] fun c r s K=>K [I0] s)
 (.block n0 (.loop (.seq (.reg [q11] fun c r s K=>binK .lss (r q10) I4 fun v0=>K [v0] s)
 (.seq (.cond (.t q11) .skip
 (.exit n0))
 (.seq (.block n1 (.seq (.reg [q8] fun c r s K=>K [(r q10)] s)
 (.seq (.reg [q1] fun c r s K=>fad n1 (r q3) fun v0=>ld s v0 fun v1=>binK .mul (r q1) v1 fun v2=>fad n0 (r q3) fun v3=>ld s v3 fun v4=>binK .rem v2 v4 fun v5=>K [v5] s)
 (.drw [] fun c r s K=>(fun z m=>dN z m n2 n0 s n3 (r q3) fun v0 m s=>ixA n4 n1 (r q5) (r q8) fun v1=>dL z m n16 n12 s v1 fun v2 m s=>binK .add v2 (r q1) fun v3=>binK .add v3 U7 fun v4=>fad n0 (r q3) fun v5=>dL z m (nat_lit 512) (nat_lit 256) s v5 fun v6 m s=>binK .rem v4 v6 fun v7=>dw3 m (nat_lit 2048) (nat_lit 2046) s (fun s q=>c pw [v0,v7] s q) fun v8 m s=>ixA n4 n1 (r q5) (r q8) fun v9=>dS z m (nat_lit 8192) (nat_lit 8191) s n1 v9 v8 fun _ m s=>K [] s) s.next mk0))))
 (.reg [q10] fun c r s K=>binK .add (r q10) I1 fun v0=>K [v0] s)))))))
 (.seq (.reg [q9] fun c r s K=>ixA n4 n1 (r q5) I0 fun v0=>ld s v0 fun v1=>ixA n4 n1 (r q5) I1 fun v2=>ld s v2 fun v3=>binK .add v1 v3 fun v4=>ixA n4 n1 (r q5) I2 fun v5=>ld s v5 fun v6=>binK .add v4 v6 fun v7=>ixA n4 n1 (r q5) I3 fun v8=>ld s v8 fun v9=>binK .add v7 v9 fun v10=>K [v10] s)
 (.seq (.drw [q6] fun c r s K=>(fun z m=>ixA n4 n1 (r q5) I0 fun v0=>dL z m n8 n4 s v0 fun v1 m s=>binK .add (r q9) v1 fun v2=>ixA n4 n1 (r q5) I1 fun v3=>dL z m n64 n32 s v3 fun v4 m s=>binK .mul U2 v4 fun v5=>binK .add v2 v5 fun v6=>fad n0 (r q3) fun v7=>dL z m (nat_lit 1024) (nat_lit 512) s v7 fun v8 m s=>binK .rem v6 v8 fun v9=>ixA n4 n1 (r q5) I1 fun v10=>dL z m (nat_lit 16384) (nat_lit 8192) s v10 fun v11 m s=>binK .add (r q9) v11 fun v12=>ixA n4 n1 (r q5) I2 fun v13=>dL z m (nat_lit 131072) (nat_lit 65536) s v13 fun v14 m s=>binK .mul U2 v14 fun v15=>binK .add v12 v15 fun v16=>fad n0 (r q3) fun v17=>dL z m (nat_lit 2097152) (nat_lit 1048576) s v17 fun v18 m s=>binK .rem v16 v18 fun v19=>ixA n4 n1 (r q5) I2 fun v20=>dL z m (nat_lit 33554432) (nat_lit 16777216) s v20 fun v21 m s=>binK .add (r q9) v21 fun v22=>ixA n4 n1 (r q5) I3 fun v23=>dL z m (nat_lit 268435456) (nat_lit 134217728) s v23 fun v24 m s=>binK .mul U2 v24 fun v25=>binK .add v22 v25 fun v26=>fad n0 (r q3) fun v27=>dL z m (nat_lit 4294967296) (nat_lit 2147483648) s v27 fun v28 m s=>binK .rem v26 v28 fun v29=>ixA n4 n1 (r q5) I3 fun v30=>dL z m (nat_lit 68719476736) (nat_lit 34359738368) s v30 fun v31 m s=>binK .add (r q9) v31 fun v32=>ixA n4 n1 (r q5) I0 fun v33=>dL z m (nat_lit 549755813888) (nat_lit 274877906944) s v33 fun v34 m s=>binK .mul U2 v34 fun v35=>binK .add v32 v35 fun v36=>fad n0 (r q3) fun v37=>dL z m (nat_lit 8796093022208) (nat_lit 4398046511104) s v37 fun v38 m s=>binK .rem v36 v38 fun v39=>h_op3_build [zu,zu,zu,zu] [(n0,n1,(.c v9)),(n1,n1,(.c v19)),(n2,n1,(.c v29)),(n3,n1,(.c v39))] c r s fun v40 s=>dS z m (nat_lit 140737488355328) (nat_lit 140737488355327) s n4 (r q7) v40 fun _ m s=>K [(r q1)] s) s.next mk0)
 .ret)))),[(.tmp q6),(.cellN n4 q7)],[q0,q1,q2],[q12,q13,q14,q15,q16,q17,q18,q19,q20,q21,q22,q23,q24,q25,q26,q27,q28,q29,q30,q31,q32,q33,q34,q35,q36,q37,q38,q39,q40,q41,q42,q43,q44,q45,q46,q47,q48,q49,q50,q51,q52,q53,q54,q55,q56,q57,q58,q59,q60,q61,q62,q63,q64,q65,q66,q67,q68,q69,q70,q71,q72,q73,q74,q75,q76,q77,q78,q79,q80,q81,q82,q83,q84,q85,q86,q87,q88,q89,q90]⟩
noncomputable def hPerm (rd:Nat):HF:=⟨
(.seq (.reg [q2,q3,q4] fun c r s K=>bxx s (r q0) fun v0 s=>bxx s (r q1) fun v1 s=>alc s [zu,zu,zu,zu] fun v2 s=>K [v0,v1,v2] s)
 (.seq (.reg [q5] fun c r s K=>K [U1] s)
 (.seq (.seq (.reg [q6] fun c r s K=>K [I0] s)
 (.block n0 (.loop (.seq (.reg [q7] fun c r s K=>binK .lss (r q6) I8 fun v0=>K [v0] s)
 (.seq (.cond (.t q7) .skip
 (.exit n0))
 (.seq (.block n1 (.reg [q5] fun c r s K=>lN s n3 (r q2) fun v0=>lN s n4 (r q3) fun v1=>c rd [v0,(r q5),v1] s fun v2 s=>xE n0 v2 c r s fun v3 s=>xE n1 v2 c r s fun v4 s=>sto s n4 (r q3) v4 fun s=>K [v3] s))
 (.reg [q6] fun c r s K=>binK .add (r q6) I1 fun v0=>K [v0] s)))))))
 (.seq (.reg [] fun c r s K=>lN s n4 (r q3) fun v0=>sto s n4 (r q4) v0 fun s=>K [] s)
 .ret)))),[(.cellN n4 q4)],[q0,q1],[q9,q10,q11,q12,q8,q13,q14,q15,q16]⟩
def gS (P g k:Nat):Nat→Nat
 | 0=>k
 | j+1=>gS P g k j * g % P
def tR (P g:Nat) (five:Bool) (k:Nat) (f:Nat→Nat) (j:Nat):Nat:=mpow P five ((f j+gS P g k (j+1)+7) % P)
def uR (P g:Nat) (five:Bool) (k:Nat) (f:Nat→Nat):Nat:=tR P g five k f 0+tR P g five k f 1+tR P g five k f 2+tR P g five k f 3
def rR (P g:Nat) (five:Bool) (k:Nat) (f:Nat→Nat) (j:Nat):Nat:=(uR P g five k f+tR P g five k f j+2 * tR P g five k f ((j+1) % 4)) % P
section
variable {F:Nat→Option HF}{pw rn pn:Nat}{P g:Nat}{five:Bool}
def pI (P g:Nat) (five:Bool):Nat→Nat→(Nat→Nat)→Nat×(Nat→Nat)
 | 0,k,f=>(k,f)
 | n+1,k,f=>pI P g five n (gS P g k 4) (rR P g five k f)
end
end
end Go.Proofs.YtkneccbdfpnnlaaGreatDoor.Ev
