/- What the listed package variables hold, and the evaluator's runs, by the kernel; no conditions. -/
import Derived.Test.YtkneccbdfpnnlaaGreatDoorE
import Derived.Test.YtkneccbdfpnnlaaGreatDoorEvF
import Derived.Test.YtkneccbdfpnnlaaGreatDoorPd
import Derived.Test.YtkneccbdfpnnlaaGreatDoorEvD
namespace Go.Proofs.YtkneccbdfpnnlaaGreatDoor.Ev
set_option linter.unusedSimpArgs false
set_option linter.unusedVariables false
section
variable {st s t:St}{n i id off:Nat}
theorem cnv_bi (n:Nat) (K:V→R) (h:n<256):cnv .i64 (bv n) K=K (iv n):=by
 show intK .i64 (n:Int) K=_
 rw [intK_eq,wrap_i64 (by omega)];rfl
theorem cnv_bu (n:Nat) (K:V→R) (h:n<256):cnv .u64 (bv n) K=K (uv n):=by
 show intK .u64 (n:Int) K=_
 rw [intK_eq,wrap_u64 (by omega)];rfl
theorem band0 (a b:Nat) (K:V→R) (h:a<256) (h':b<256):binK .and (bv a) (bv b) K=K (bv (a &&& b)):=by
 show iteB (Nat.blt a 256) (iteB (Nat.blt b 256) (seqN (Nat.land a b) fun r=>K (.sc (.int .u8 (.ofNat r)))) (.fail 18)) (.fail 18)=_
 have h1:Nat.blt a 256=true:=Nat.ble_eq_true_of_le h
 have h2:Nat.blt b 256=true:=Nat.ble_eq_true_of_le h'
 rw [h1,iteB_true,h2,iteB_true,seqN_eq];rfl
structure InsD where
 o:Nat
 a:Nat
 b:Nat
 m:Nat
deriving DecidableEq
def insC (g:InsD):List S:=[bs g.o,bs g.a,bs g.b,bs g.m]
def ins0:InsD:=⟨0,0,0,0⟩
instance:Inhabited InsD:=⟨ins0⟩
def RepP (st:St) (y:S) (P:List InsD):Prop:=Sat st y P.length 4 (P.flatMap insC)
theorem flat_at {α:Type}{f:α→List S}{z:Nat}:∀ {l:List α}{i j:Nat}{a:α}{x:S},(∀ a∈l,(f a).length=z)→l[i]?=some a→(f a)[j]?=some x→(l.flatMap f)[i * z+j]?=some x
 | [],i,j,a,x,_,h,_=>by simp at h
 | b :: l,0,j,a,x,hf,h,hx=>by
  simp at h;subst h
  have hj:j<(f b).length:=(List.getElem?_eq_some_iff.1 hx).1
  rw [List.flatMap_cons,Nat.zero_mul,Nat.zero_add,List.getElem?_append_left hj];exact hx
 | b :: l,i+1,j,a,x,hf,h,hx=>by
  have hb:=hf b List.mem_cons_self
  rw [List.flatMap_cons,List.getElem?_append_right (by rw [hb,Nat.succ_mul];omega),hb]
  have:=flat_at (i:=i) (fun a ha=>hf a (List.mem_cons_of_mem _ ha)) (by simpa using h) hx
  rw [← this];congr 1;rw [Nat.succ_mul];omega
theorem eltZ {α:Type}{f:α→List S}{z:Nat}{y:S}{l:List α}{j:Nat}{a:α} (hf:∀ a∈l,(f a).length=z) (h:Sat st y l.length z (l.flatMap f)) (hj:l[j]?=some a) :
  ∃ id o,(∀ K,ixs z (.sc y) (iv j) K=K (.sc (.ptr id o)))∧rdN st id o z=some (f a)∧(∀ k x,(f a)[k]?=some x→Ev.rd st id (o+k)=some x)∧sid y=some id:=by
 have hlt:j<l.length:=(List.getElem?_eq_some_iff.1 hj).1
 obtain ⟨id,off,c,rfl,hr⟩:=h.rd (by omega)
 have hrd:∀ k x,(f a)[k]?=some x→Ev.rd st id (off+j * z+k)=some x:=fun k x hx=>by
  have:=hr (j * z+k) x (flat_at hf hj hx)
  rw [← this];congr 1;omega
 refine ⟨id,off+j * z,fun K=>?_,rdN_get (hf a (List.mem_of_getElem? hj)) hrd,hrd,rfl⟩
 rw [ixs_eq z K (by omega) (by omega)];simp
theorem insC_len (P:List InsD):∀ g∈P,(insC g).length=4:=fun _ _=>rfl
def fetchV (P:List InsD) (i:Int):InsD:=if 0≤i∧i<P.length then P.getD i.toNat ins0 else ins0
theorem fetch_ok (hw:WfS st) {y:S}{P:List InsD} (hp:RepP st y P) (i:Int) :
  Ca (cF F) 29 [.sc y,iv i] st (fun v s=>Fr st s∧v=.agg (insC (fetchV P i))):=by
 refine Ca.of (hf:=cf29) rfl rfl [q0,q1] [.cellN n4 q4] rfl rfl rfl fun Q hQ=>?_
 refine Ru.rs fun P hP=>?_
 simp -implicitDefEqProofs (disch:=first|decide|omega)
 refine Rg.ret (hP _ _ ?_)
 clear hP P
 have f1:Fr st (new st [bs 0,bs 0,bs 0,bs 0]):=(Fr.refl hw).new _
 have b1:Bx (new st [bs 0,bs 0,bs 0,bs 0]) st.next [bs 0,bs 0,bs 0,bs 0]:=Bx.new
 generalize new st [bs 0,bs 0,bs 0,bs 0]=s1 at *
 have hp1:RepP s1 y P:=hp.fr f1
 have fin:∀ (ρ:Ev) (g:InsD) (Q':X→Ev→St→Prop),(∀ ρ s,Q .ret ρ s→Q' .ret ρ s)→ρ q4=.sc (.ptr st.next 0)→g=fetchV P i→Ru (cF F) .ret ρ (wr s1 st.next 0 (insC g)) Q':=fun ρ g Q' hQ' h4 hg=>by
  have kw:=b1.kpw f1.wf (i:=0) (insC g)
  have b2:=b1.setN (l':=insC g) rfl
  exact Ru.ret (hQ' _ _ (hQ _ _ (resP.cells (n:=3) (id:=st.next) (off:=0) (l:=insC g) h4 (b2.N rfl) ⟨kw.fr f1 (fun id h=>by cases h;exact Nat.le_refl _) hw,by rw [hg]⟩)))
 refine Ru.seq (Ru.rs fun P' hP=>?_)
 simp -implicitDefEqProofs +contextual (disch:=first|decide|omega) [-Bool.not_or,-Bool.not_and,lnS_sat hp1]
 refine Rg.ret (hP _ _ ?_)
 clear hP P'
 refine Ru.cond rfl (fun h=>?_) fun h=>Ru.skip ?_
 ·refine Ru.rs fun P' hP=>?_
  have hst:∀ K:St→R,Ev.sto s1 4 (.sc (.ptr st.next 0)) (.agg [bs 0,bs 0,bs 0,bs 0]) K=K (wr s1 st.next 0 (insC ins0)):=fun K=>b1.stoN (l':=insC ins0) (n:=4) rfl rfl K
  simp -implicitDefEqProofs (disch:=first|decide|omega) [build_eq,fill_nil,hst]
  refine Rg.ret (hP _ _ (fin _ ins0 _ (fun ρ s h=>h) rfl ?_))
  unfold fetchV
  rw [if_neg]
  simp at h
  omega
 ·simp at h
  obtain ⟨j,rfl⟩:=Int.eq_ofNat_of_zero_le (by omega:0≤i)
  have hj:j<P.length:=by omega
  obtain ⟨id,o,hix,hrN,_,_⟩:=eltZ (insC_len P) hp1 (List.getElem?_eq_getElem hj)
  simp only [Then]
  refine Ru.rs fun P' hP=>?_
  have hst:∀ K:St→R,Ev.sto s1 4 (.sc (.ptr st.next 0)) (.agg (insC P[j])) K=K (wr s1 st.next 0 (insC P[j])):=fun K=>b1.stoN (l':=insC P[j]) (n:=4) rfl rfl K
  simp -implicitDefEqProofs (disch:=first|decide|omega) [hix,hrN,hst]
  refine Rg.ret (hP _ _ (fin _ P[j] _ (fun ρ s h=>h) rfl ?_))
  unfold fetchV
  rw [if_pos (by omega)]
  simp [List.getD_eq_getElem?_getD,hj]
def usesV (o:Nat):Nat:=[0,5,3,3,3,3,3,3,5].getD o 0
def fitsV (g:InsD):Bool:=decide (g.o≤8∧g.a≤3∧g.b≤3∧(g.o=0→g.a=0)∧((2≤g.o∧g.o≤7)∨g.b=0)∧((g.o=1∨g.o=8)∨g.m=0))
def landsV (g:InsD) (n:Nat):Bool:=decide (g.o=8→g.m≤n)
def errV:List InsD→Nat→Nat
 | [],_=>0
 | g :: l,n=>if fitsV g=false then 1 else if landsV g n=false then 2 else errV l n
def validV (P:List InsD):Nat:=if 32<P.length then 3 else errV P P.length
theorem lands_ok (hw:WfS st) (g:InsD) (hm:g.m<256) (k:Nat):Ca (cF F) 53 [.agg (insC g),iv k] st (fun v s=>Fr st s∧v=bl (landsV g k)):=by
 refine Ca.of (hf:=cf53) rfl rfl [q0,q1] [.tmp q4] rfl rfl rfl fun Q hQ=>?_
 have f1:Fr st (new st (insC g)):=(Fr.refl hw).new _
 have b1:Bx (new st (insC g)) st.next (insC g):=Bx.new
 refine Ru.rs fun P hP=>?_
 simp -implicitDefEqProofs (disch:=first|decide|omega)
 refine Rg.ret (hP _ _ ?_)
 clear hP P
 generalize new st (insC g)=s1 at *
 refine Ru.rs fun P hP=>?_
 simp -implicitDefEqProofs +contextual (disch:=first|decide|omega) [-Bool.not_or,-Bool.not_and,b1.rd 0 _ rfl,b1.rd 3 _ rfl,cnv_bi g.m _ hm]
 refine Rg.ret (hP _ _ (Ru.ret (hQ _ _ (.one rfl ⟨f1,congrArg bl (?_:_=landsV g k)⟩))))
 unfold landsV
 rw [Bool.eq_iff_iff]
 simp
@[simp] theorem band (a b:Nat) (K:V→R) (h:a<256) (h':b<256):binK .and (bv a) (bv b) K=K (bv (a &&& b)):=by
 show iteB (Nat.blt a 256) (iteB (Nat.blt b 256) (seqN (Nat.land a b) fun r=>K (.sc (.int .u8 (.ofNat r)))) (.fail 18)) (.fail 18)=_
 have h1:Nat.blt a 256=true:=Nat.ble_eq_true_of_le h
 have h2:Nat.blt b 256=true:=Nat.ble_eq_true_of_le h'
 rw [h1,iteB_true,h2,iteB_true,seqN_eq];rfl
@[simp] theorem ixA_b (len z:Nat) {x:Nat} (K:V→R) (h':x<len):ixA len z (.sc (.ptr id off)) (bv x) K=K (.sc (.ptr id (off+x * z))):=by
 have h1:Nat.blt x len=true:=Nat.ble_eq_true_of_le h'
 show iteB (Nat.blt x len) (seqN (Nat.add off (Nat.mul x z)) fun o=>K (.sc (.ptr id o))) (.fail 74)=_
 rw [h1,iteB_true,seqN_eq];rfl
theorem holdsAll_fr {s t:St} (h:Fr s t):∀ {l:List (Nat×List S)},holdsAll s.heap l=true→holdsAll t.heap l=true
 | [],_=>rfl
 | p :: r,hh=>by
  have hh:(holds1 s.heap p && holdsAll s.heap r)=true:=hh
  simp only [Bool.and_eq_true] at hh
  show (holds1 t.heap p && holdsAll t.heap r)=true
  rw [holdsAll_fr h hh.2,Bool.and_true]
  have h1:=hh.1
  unfold holds1 at h1 ⊢
  cases hb:s.heap.get p.1 with
  | none=>rw [hb] at h1;cases h1
  | some b=>rw [hb] at h1;rw [h.old _ _ hb];exact h1
theorem uses_rd (hh:holdsAll st.heap l0=true) {o:Nat} (h:o<9):rd st 0 o=some (bs (usesV o)):=by
 have h1:=holdsAll_mem hh (List.mem_of_getElem? (rfl:l0[4]?=some _))
 unfold holds1 at h1
 split at h1
 ·rename_i b hb
  split at h1
  ·rename_i c hk hc
   have he:=lEq_of h1
   obtain ⟨e1,e2⟩:=cellsAt_get hc
   have hr:∀ i y,c[i]?=some y→rd st 0 i=some y:=fun i y hy=>by
    have h2:=e2 i y hy
    rw [Nat.zero_add] at h2
    unfold rd
    rw [show st.heap.get 0=some b from hb]
    exact h2
   rw [he] at hr
   rcases (show o=0∨o=1∨o=2∨o=3∨o=4∨o=5∨o=6∨o=7∨o=8 by omega) with rfl | rfl | rfl | rfl | rfl | rfl | rfl | rfl | rfl <;> exact hr _ _ rfl
  ·cases h1
 ·cases h1
theorem uses_f:∀ o,o<9→usesV o<256∧(usesV o &&& 1=0↔o=0)∧(usesV o &&& 2=0↔¬ (2≤o∧o≤7))∧(usesV o &&& 4=0↔¬ (o=1∨o=8)):=by decide
theorem fits_ok (hw:WfS st) (hh:holdsAll st.heap l0=true) (g:InsD) (ho:g.o<256) (ha:g.a<256) (hb:g.b<256) (hm:g.m<256):Ca (cF F) 52 [.agg (insC g)] st (fun v s=>Fr st s∧v=bl (fitsV g)):=by
 refine Ca.of (hf:=cf52) rfl rfl [q0] [.tmp q2] rfl rfl rfl fun Q hQ=>?_
 have f1:Fr st (new st (insC g)):=(Fr.refl hw).new _
 have b1:Bx (new st (insC g)) st.next (insC g):=Bx.new
 refine Ru.rs fun P hP=>?_
 simp -implicitDefEqProofs (disch:=first|decide|omega)
 refine Rg.ret (hP _ _ ?_)
 clear hP P
 generalize new st (insC g)=s1 at *
 refine Ru.seq (Ru.rs fun P hP=>?_)
 simp -implicitDefEqProofs +contextual (disch:=first|decide|omega) [-Bool.not_or,-Bool.not_and,b1.rd 0 _ rfl,b1.rd 1 _ rfl,b1.rd 2 _ rfl,cnv_bi g.o _ ho]
 refine Rg.ret (hP _ _ ?_)
 clear hP P
 refine Ru.cond rfl (fun h=>?_) fun h=>Ru.skip ?_
 ·refine Ru.rs fun P hP=>Rg.ret (hP _ _ (Ru.ret (hQ _ _ (.one rfl ⟨f1,congrArg bl (?_:false=fitsV g)⟩))))
  unfold fitsV
  symm
  rw [decide_eq_false_iff_not]
  simp at h
  omega
 simp at h
 simp only [Then]
 have ho':g.o<9:=by omega
 refine Ru.sreg ?_
 refine Rg.hide fun P hP=>?_
 simp -implicitDefEqProofs +contextual (disch:=first|decide|omega) [b1.rd 0 _ rfl,f1.rd (uses_rd hh ho')]
 refine Rg.ret (hP _ _ ?_)
 clear hP P
 refine Ru.rs fun P hP=>?_
 obtain ⟨hu,u1,u2,u4⟩:=uses_f g.o ho'
 simp -implicitDefEqProofs +contextual (disch:=first|decide|omega) [-Bool.not_or,-Bool.not_and,b1.rd 1 _ rfl,b1.rd 2 _ rfl,b1.rd 3 _ rfl]
 refine Rg.ret (hP _ _ (Ru.ret (hQ _ _ (.one rfl ⟨f1,congrArg bl (?_:_=fitsV g)⟩))))
 unfold fitsV
 rw [Bool.eq_iff_iff,decide_eq_true_iff]
 rw [Nat.and_one_is_mod] at u1
 simp -implicitDefEqProofs only [Bool.and_eq_true,Bool.or_eq_true,Bool.not_eq_true',eqN_t,eqN_f,u2,u4]
 omega
def OkP (P:List InsD):Prop:=∀ g∈P,g.o<256∧g.a<256∧g.b<256∧g.m<256
theorem RepP.fr {y:S}{P:List InsD} (h:RepP s y P) (k:Fr s t):RepP t y P:=Sat.fr h k
theorem valid_ok (hw:WfS st) (hh:holdsAll st.heap l0=true) {y:S}{P:List InsD} (hp:RepP st y P) (hok:OkP P) :
  Ca (cF F) 26 [.sc y] st (fun v s=>Fr st s∧v=iv (validV P)):=by
 refine Ca.of (hf:=cf26) rfl rfl [q0] [.tmp q2] rfl rfl rfl fun Q hQ=>?_
 refine Ru.rs fun P' hP=>Rg.ret (hP _ _ ?_)
 clear hP P'
 refine Ru.seq (Ru.rs fun P' hP=>?_)
 simp -implicitDefEqProofs (disch:=first|decide|omega) [lnS_sat hp]
 refine Rg.ret (hP _ _ ?_)
 clear hP P'
 refine Ru.cond rfl (fun h=>?_) fun h=>Ru.skip ?_
 ·refine Ru.rs fun P' hP=>Rg.ret (hP _ _ (Ru.ret (hQ _ _ (.one rfl ⟨Fr.refl hw,congrArg iv (?_:_=(validV P:Int))⟩))))
  simp at h
  unfold validV
  rw [if_pos (by omega)];rfl
 simp at h
 have h32:P.length≤32:=by omega
 simp only [Then]
 refine Ru.seq (Ru.rs fun P' hP=>?_)
 simp -implicitDefEqProofs (disch:=first|decide|omega) [lnS_sat hp]
 refine Rg.ret (hP _ _ ?_)
 clear hP P'
 refine Ru.at (fun ρ=>ρ q0=.sc y∧ρ q8=.sc y∧ρ q9=iv P.length∧ρ q10=iv 0) ⟨rfl,rfl,rfl,rfl⟩ fun ρ0 hE=>?_
 obtain ⟨e0,e8,e9,e10⟩:=hE
 refine Ru.block (Ru.lp [q0,q8,q9] (fun j:Nat=>P.length - j) (fun i ρ s=>Fr st s∧i≤P.length∧ρ q10=iv i∧errV P P.length=errV (P.drop i) P.length)
  ⟨0,Fr.refl hw,Nat.zero_le _,e10,rfl⟩ fun i ρ s hk hI=>?_)
 clear e10
 obtain ⟨hf,hi,e10,hv⟩:=hI
 refine Ru.rs fun P' hP=>?_
 simp -implicitDefEqProofs (disch:=first|decide|omega) [hk.e,e9,e10]
 refine Rg.ret (hP _ _ ?_)
 clear hP P'
 refine Ru.seq (Ru.cond rfl (fun h=>Ru.skip ?_) fun h=>Ru.exit ?_)
 rotate_left
 ·simp at h
  have hin:i=P.length:=by omega
  subst hin
  simp only [Then,Out,if_true]
  refine Ru.sreg (Rg.ret (Ru.ret (hQ _ _ (.one rfl ⟨hf,congrArg iv (?_:_=(validV P:Int))⟩))))
  unfold validV
  rw [if_neg (by omega),hv,List.drop_length];rfl
 simp at h
 simp only [Then,Out]
 have hlt:i<P.length:=by omega
 have hPi:P[i]?=some P[i]:=List.getElem?_eq_getElem hlt
 obtain ⟨o1,o2,o3,o4⟩:=hok P[i] (List.getElem_mem hlt)
 rw [List.drop_eq_getElem_cons hlt] at hv
 obtain ⟨id,o,hix,hrN,_,_⟩:=eltZ (insC_len P) (hp.fr hf) hPi
 have k1:Fr s (new s (insC P[i])):=(Fr.refl hf.wf).new _
 refine Ru.seq (Ru.block (Ru.rs fun P' hP=>?_))
 have hst:∀ K:St→R,Ev.sto (new s [bs 0,bs 0,bs 0,bs 0]) 4 (.sc (.ptr s.next 0)) (.agg (insC P[i])) K=K (wr (new s [bs 0,bs 0,bs 0,bs 0]) s.next 0 (insC P[i])):=fun K=>(Bx.new (s:=s) (l:=[bs 0,bs 0,bs 0,bs 0])).stoN (l':=insC P[i]) (n:=4) rfl rfl K
 simp -implicitDefEqProofs (disch:=first|decide|omega) [hk.e,e8,e10,hix,hrN,hst]
 refine Rg.ret (hP _ _ ?_)
 clear hP P'
 have kf:=fr_mk hf.wf [bs 0,bs 0,bs 0,bs 0] (insC P[i])
 have b4:Bx (wr (new s [bs 0,bs 0,bs 0,bs 0]) s.next 0 (insC P[i])) s.next (insC P[i]):=Bx.mk' rfl
 generalize wr (new s [bs 0,bs 0,bs 0,bs 0]) s.next 0 (insC P[i])=s1 at *
 clear hst k1
 refine Ru.block ?_
 refine Ru.rs fun P' hP=>?_
 simp -implicitDefEqProofs (disch:=first|decide|omega) [b4.N (n:=4) rfl]
 refine Rg.call (fits_ok kf.wf (holdsAll_fr (hf.trans kf) hh) P[i] o1 o2 o3 o4) fun v s2 hv2=>?_
 obtain ⟨f2,rfl⟩:=hv2
 simp -implicitDefEqProofs (disch:=first|decide|omega)
 refine Rg.ret (hP _ _ ?_)
 clear hP P'
 have ret:∀ (ρ:Ev) (t:St) (n:Int) (Q':X→Ev→St→Prop),Q' .ret=Q .ret→Fr st t→n=validV P→Ru (cF F) (.seq (.reg [q2] fun c r s K=>K [iv n] s) .ret) ρ t Q':=fun ρ t n Q' hq hf hn=>by
  refine Ru.sreg (Rg.ret (Ru.ret ?_))
  rw [hq]
  exact hQ _ _ (.one rfl ⟨hf,congrArg iv hn⟩)
 refine Ru.cond rfl (fun h1=>?_) fun h1=>?_
 ·refine ret _ _ 1 _ rfl ((hf.trans kf).trans f2) ?_
  simp at h1
  unfold validV
  rw [if_neg (by omega),hv]
  simp [errV,h1]
 simp at h1
 refine Ru.rs fun P' hP=>?_
 simp -implicitDefEqProofs (disch:=first|decide|omega) [(b4.fr f2).N (n:=4) rfl,hk.e,e0,lnS_sat hp]
 refine Rg.call (lands_ok f2.wf P[i] o4 P.length) fun v s3 hv3=>?_
 obtain ⟨f3,rfl⟩:=hv3
 simp -implicitDefEqProofs (disch:=first|decide|omega)
 refine Rg.ret (hP _ _ ?_)
 clear hP P'
 refine Ru.cond rfl (fun h2=>?_) fun h2=>Ru.skip ?_
 ·refine ret _ _ 2 _ rfl (((hf.trans kf).trans f2).trans f3) ?_
  simp at h2
  unfold validV
  rw [if_neg (by omega),hv]
  simp [errV,h1,h2]
 simp at h2
 simp only [Then,Out]
 refine Ru.r1 fun P' hP=>?_
 simp -implicitDefEqProofs (disch:=first|decide|omega) [e10]
 refine Rg.ret (hP _ _ ⟨by repeat first | exact hk | refine Keep.up (by rfl) ?_,i+1,by omega,((hf.trans kf).trans f2).trans f3,by omega,rfl, ?_⟩)
 rw [hv]
 simp [errV,h1,h2]
end
section
variable {st s t:St}{n i id off:Nat}
theorem usesB_ok (hw:WfS st) (o:Nat) (ho:o<256):Ca (cF F) 88 [bv o] st (fun v s=>s=st∧v=bl (decide (2≤o∧o≤7))):=by
 refine Ca.of (hf:=cf88) rfl rfl [q0] [.tmp q2] rfl rfl rfl fun Q hQ=>?_
 refine Ru.rs fun P' hP=>Rg.ret (hP _ _ ?_)
 clear hP P'
 refine Ru.rs fun P' hP=>?_
 simp -implicitDefEqProofs +contextual (disch:=first|decide|omega) [-Bool.not_or,-Bool.not_and]
 refine Rg.ret (hP _ _ (Ru.ret (hQ _ _ (.one rfl ⟨rfl,congrArg bl (?_:_=_)⟩))))
 rw [Bool.eq_iff_iff]
 simp
theorem usesI_ok (hw:WfS st) (o:Nat) (ho:o<256):Ca (cF F) 89 [bv o] st (fun v s=>s=st∧v=bl (decide (o=1∨o=8))):=by
 refine Ca.of (hf:=cf89) rfl rfl [q0] [.tmp q2] rfl rfl rfl fun Q hQ=>?_
 refine Ru.rs fun P' hP=>Rg.ret (hP _ _ ?_)
 clear hP P'
 refine Ru.rs fun P' hP=>?_
 simp -implicitDefEqProofs +contextual (disch:=first|decide|omega) [-Bool.not_or,-Bool.not_and]
 refine Rg.ret (hP _ _ (Ru.ret (hQ _ _ (.one rfl ⟨rfl,congrArg bl (?_:_=_)⟩))))
 rw [Bool.eq_iff_iff]
 simp
theorem rfits_ok (hw:WfS st) (g:InsD) (ho:g.o<256) (ha:g.a<256) (hb:g.b<256) (hm:g.m<256):Ca (cF F) 60 [.agg (insC g)] st (fun v s=>Fr st s∧v=bl (fitsV g)):=by
 refine Ca.of (hf:=cf60) rfl rfl [q0] [.tmp q2] rfl rfl rfl fun Q hQ=>?_
 have f1:Fr st (new st (insC g)):=(Fr.refl hw).new _
 have b1:Bx (new st (insC g)) st.next (insC g):=Bx.new
 refine Ru.rs fun P hP=>?_
 simp -implicitDefEqProofs (disch:=first|decide|omega)
 refine Rg.ret (hP _ _ ?_)
 clear hP P
 generalize new st (insC g)=s1 at *
 refine Ru.rs fun P hP=>?_
 simp -implicitDefEqProofs +contextual (disch:=first|decide|omega) [-Bool.not_or,-Bool.not_and,b1.rd 0 _ rfl,b1.rd 1 _ rfl,b1.rd 2 _ rfl]
 have fin:∀ b:Bool,(b=true↔(g.o≤8∧g.a≤3∧g.b≤3∧(g.o=0→g.a=0)∧((2≤g.o∧g.o≤7)∨g.b=0)∧((g.o=1∨g.o=8)∨g.m=0)))→P [bl b] s1:=fun b hb=>by
  refine hP _ _ (Ru.ret (hQ _ _ (.one rfl ⟨f1,congrArg bl (?_:_=_)⟩)))
  unfold fitsV
  rw [Bool.eq_iff_iff,decide_eq_true_iff];exact hb
 clear hP
 cases hc:(leN g.o 8 && leN g.a 3 && leN g.b 3 && (!eqN g.o 0 || eqN g.a 0)) with
 | false =>
  simp -implicitDefEqProofs (disch:=first|decide|omega)
  refine Rg.ret (fin _ ?_)
  simp at hc
  simp
  omega
 | true =>
  simp at hc
  simp -implicitDefEqProofs (disch:=first|decide|omega)
  refine Rg.call (usesB_ok f1.wf g.o ho) fun v s2 hv=>?_
  obtain ⟨rfl,rfl⟩:=hv
  simp -implicitDefEqProofs +contextual (disch:=first|decide|omega) [-Bool.not_or,-Bool.not_and,b1.rd 0 _ rfl,b1.rd 2 _ rfl]
  cases hd:(decide (2≤g.o) && decide (g.o≤7) || eqN g.b 0) with
  | false =>
   simp -implicitDefEqProofs (disch:=first|decide|omega)
   refine Rg.ret (fin _ ?_)
   simp at hd
   simp
   omega
  | true =>
   simp at hd
   simp -implicitDefEqProofs (disch:=first|decide|omega)
   refine Rg.call (usesI_ok f1.wf g.o ho) fun v s3 hv=>?_
   obtain ⟨rfl,rfl⟩:=hv
   simp -implicitDefEqProofs +contextual (disch:=first|decide|omega) [-Bool.not_or,-Bool.not_and,b1.rd 3 _ rfl]
   refine Rg.ret (fin _ ?_)
   simp
   omega
theorem rvalid_ok (hw:WfS st) {y:S}{P:List InsD} (hp:RepP st y P) (hok:OkP P) :
  Ca (cF F) 40 [.sc y] st (fun v s=>Fr st s∧v=iv (validV P)):=by
 refine Ca.of (hf:=cf40) rfl rfl [q0] [.tmp q2] rfl rfl rfl fun Q hQ=>?_
 refine Ru.rs fun P' hP=>Rg.ret (hP _ _ ?_)
 clear hP P'
 refine Ru.seq (Ru.rs fun P' hP=>?_)
 simp -implicitDefEqProofs (disch:=first|decide|omega) [lnS_sat hp]
 refine Rg.ret (hP _ _ ?_)
 clear hP P'
 refine Ru.cond rfl (fun h=>?_) fun h=>Ru.skip ?_
 ·refine Ru.rs fun P' hP=>Rg.ret (hP _ _ (Ru.ret (hQ _ _ (.one rfl ⟨Fr.refl hw,congrArg iv (?_:_=(validV P:Int))⟩))))
  simp at h
  unfold validV
  rw [if_pos (by omega)];rfl
 simp at h
 have h32:P.length≤32:=by omega
 simp only [Then]
 refine Ru.seq (Ru.rs fun P' hP=>?_)
 simp -implicitDefEqProofs (disch:=first|decide|omega)
 refine Rg.ret (hP _ _ ?_)
 clear hP P'
 refine Ru.at (fun ρ=>ρ q0=.sc y∧ρ q3=iv 0) ⟨rfl,rfl⟩ fun ρ0 hE=>?_
 obtain ⟨e0,e3⟩:=hE
 refine Ru.block (Ru.lp [q0] (fun j:Nat=>P.length - j) (fun i ρ s=>Fr st s∧i≤P.length∧ρ q3=iv i∧errV P P.length=errV (P.drop i) P.length)
  ⟨0,Fr.refl hw,Nat.zero_le _,e3,rfl⟩ fun i ρ s hk hI=>?_)
 clear e3
 obtain ⟨hf,hi,e3,hv⟩:=hI
 refine Ru.seq (Ru.rs fun P' hP=>?_)
 simp -implicitDefEqProofs (disch:=first|decide|omega) [hk.e,e0,e3,lnS_sat hp]
 refine Rg.ret (hP _ _ ?_)
 clear hP P'
 refine Ru.cond rfl (fun h=>Ru.skip ?_) fun h=>Ru.exit ?_
 rotate_left
 ·simp at h
  have hin:i=P.length:=by omega
  subst hin
  simp only [Then,Out,if_true]
  refine Ru.sreg (Rg.ret (Ru.ret (hQ _ _ (.one rfl ⟨hf,congrArg iv (?_:_=(validV P:Int))⟩))))
  unfold validV
  rw [if_neg (by omega),hv,List.drop_length];rfl
 simp at h
 simp only [Then,Out]
 have hlt:i<P.length:=by omega
 have hPi:P[i]?=some P[i]:=List.getElem?_eq_getElem hlt
 obtain ⟨o1,o2,o3,o4⟩:=hok P[i] (List.getElem_mem hlt)
 rw [List.drop_eq_getElem_cons hlt] at hv
 obtain ⟨id,o,hix,hrN,hrd,_⟩:=eltZ (insC_len P) (hp.fr hf) hPi
 have hr0:=hrd 0 _ rfl
 have hr3:=hrd 3 _ rfl
 rw [Nat.add_zero] at hr0
 refine Ru.seq (Ru.block (Ru.seq (Ru.rs fun P' hP=>?_)))
 simp -implicitDefEqProofs (disch:=first|decide|omega) [hk.e,e0,e3,hix,hrN]
 refine Rg.call (rfits_ok hf.wf P[i] o1 o2 o3 o4) fun v s2 hv2=>?_
 obtain ⟨f2,rfl⟩:=hv2
 simp -implicitDefEqProofs (disch:=first|decide|omega)
 refine Rg.ret (hP _ _ ?_)
 clear hP P'
 have ret:∀ (ρ:Ev) (t:St) (n:Int) (Q':X→Ev→St→Prop),Q' .ret=Q .ret→Fr st t→n=validV P→Ru (cF F) (.seq (.reg [q2] fun c r s K=>K [iv n] s) .ret) ρ t Q':=fun ρ t n Q' hq hf hn=>by
  refine Ru.sreg (Rg.ret (Ru.ret ?_))
  rw [hq]
  exact hQ _ _ (.one rfl ⟨hf,congrArg iv hn⟩)
 refine Ru.cond rfl (fun h1=>?_) fun h1=>Ru.skip ?_
 ·refine ret _ _ 1 _ rfl (hf.trans f2) ?_
  simp at h1
  unfold validV
  rw [if_neg (by omega),hv]
  simp [errV,h1]
 simp at h1
 simp only [Then,Out]
 refine Ru.rs fun P' hP=>?_
 simp -implicitDefEqProofs +contextual (disch:=first|decide|omega) [-Bool.not_or,-Bool.not_and,hk.e,e0,e3,hix,f2.rd hr0,f2.rd hr3,cnv_bi P[i].m _ o4,lnS_sat hp]
 refine Rg.ret (hP _ _ ?_)
 clear hP P'
 refine Ru.cond rfl (fun h2=>?_) fun h2=>Ru.skip ?_
 ·refine ret _ _ 2 _ rfl (hf.trans f2) ?_
  simp at h2
  have h3:landsV P[i] P.length=false:=by unfold landsV;rw [decide_eq_false_iff_not];omega
  unfold validV
  rw [if_neg (by omega),hv]
  simp [errV,h1,h3]
 simp at h2
 have h3:landsV P[i] P.length=true:=by unfold landsV;rw [decide_eq_true_iff];omega
 simp only [Then,Out]
 refine Ru.r1 fun P' hP=>?_
 simp -implicitDefEqProofs (disch:=first|decide|omega) [e3]
 refine Rg.ret (hP _ _ ⟨by repeat first | exact hk | refine Keep.up (by rfl) ?_,i+1,by omega,hf.trans f2,by omega,rfl, ?_⟩)
 rw [hv]
 simp [errV,h1,h3]
theorem ishl1 {st:St} (b:Nat) (c:CallK) (r:Ev) (K:V→St→R) (h:b≤13):xS true (iv 1) (iv b) c r st K=K (iv ((2 ^ b:Nat):Int)) st:=by
 show iteB (intLt (b:Int) 0) (.fail 12) (intK .i64 (Int.mul (1:Int) (.ofNat (Nat.pow 2 (Nat.min ((b:Int).toNat) 64)))) fun v=>K v st)=_
 rw [intLt_b,decide_eq_false (by omega),iteB_false,intK_eq]
 have h1:Nat.min ((b:Int).toNat) 64=b:=by rw [Int.toNat_natCast];exact Nat.min_eq_left (by omega)
 rw [h1]
 have h2:Int.mul (1:Int) (.ofNat (Nat.pow 2 b))=((2 ^ b:Nat):Int):=by show (1:Int) * ((2 ^ b:Nat):Int)=_;rw [Int.one_mul]
 have h3:2 ^ b≤2 ^ 13:=Nat.pow_le_pow_right (by decide) h
 rw [h2,wrap_i64 (by omega)];rfl
def boundsV (P:List InsD) (r:Int):Nat:=if validV P≠0∨r<4∨13<r then 1 else if 2 ^ r.toNat≤P.length then 3 else 0
theorem bounds_ok (hw:WfS st) (hh:holdsAll st.heap l0=true) {y:S}{P:List InsD} (hp:RepP st y P) (hok:OkP P) (r:Int) :
  Ca (cF F) 11 [.sc y,iv r] st (fun v s=>Fr st s∧v=iv (boundsV P r)):=by
 refine Ca.of (hf:=cf11) rfl rfl [q0,q1] [.tmp q4] rfl rfl rfl fun Q hQ=>?_
 refine Ru.rs fun P' hP=>Rg.ret (hP _ _ ?_)
 clear hP P'
 have ret:∀ (ρ:Ev) (t:St) (n:Int) (Q':X→Ev→St→Prop),Q' .ret=Q .ret→Fr st t→n=boundsV P r→Ru (cF F) (.seq (.reg [q4] fun c r s K=>K [iv n] s) .ret) ρ t Q':=fun ρ t n Q' hq hf hn=>by
  refine Ru.sreg (Rg.ret (Ru.ret ?_))
  rw [hq]
  exact hQ _ _ (.one rfl ⟨hf,congrArg iv hn⟩)
 refine Ru.seq (Ru.block (Ru.rs fun P' hP=>?_))
 simp -implicitDefEqProofs (disch:=first|decide|omega)
 refine Rg.call (valid_ok hw hh hp hok) fun v s2 hv=>?_
 obtain ⟨f2,rfl⟩:=hv
 by_cases h0:validV P=0
 ·simp -implicitDefEqProofs +contextual (disch:=first|decide|omega) [-Bool.not_or,-Bool.not_and,h0]
  refine Rg.ret (hP _ _ ?_)
  clear hP P'
  refine Ru.cond rfl (fun h=>?_) fun h=>?_
  ·simp at h
   exact ret _ _ 1 _ rfl f2 (by unfold boundsV;rw [if_pos (by omega)];rfl)
  simp at h
  obtain ⟨k,rfl⟩:=Int.eq_ofNat_of_zero_le (by omega:0≤r)
  refine Ru.rs fun P' hP=>?_
  simp -implicitDefEqProofs (disch:=first|decide|omega) [ishl1,lnS_sat hp]
  refine Rg.ret (hP _ _ ?_)
  clear hP P'
  have hb:boundsV P k=if 2 ^ k≤P.length then 3 else 0:=by unfold boundsV;rw [if_neg (by omega)];rfl
  refine Ru.cond rfl (fun h1=>?_) fun h1=>Ru.skip ?_
  ·simp [-Int.natCast_pow] at h1
   rw [show (2:Int) ^ k=((2 ^ k:Nat):Int) from (Int.natCast_pow 2 k).symm] at h1
   generalize 2 ^ k=m at h1 hb
   exact ret _ _ 3 _ rfl f2 (by rw [hb,if_pos (by omega)];rfl)
  ·simp [-Int.natCast_pow] at h1
   rw [show (2:Int) ^ k=((2 ^ k:Nat):Int) from (Int.natCast_pow 2 k).symm] at h1
   generalize 2 ^ k=m at h1 hb
   simp only [Then,Out]
   exact ret _ _ 0 _ rfl f2 (by rw [hb,if_neg (by omega)];rfl)
 ·simp -implicitDefEqProofs +contextual (disch:=first|decide|omega) [-Bool.not_or,-Bool.not_and,h0]
  refine Rg.ret (hP _ _ ?_)
  clear hP P'
  refine Ru.cond rfl (fun h=>?_) fun h=>?_
  ·exact ret _ _ 1 _ rfl f2 (by unfold boundsV;rw [if_pos (.inl h0)];rfl)
  ·simp at h
theorem rbounds_ok (hw:WfS st) {y:S}{P:List InsD} (hp:RepP st y P) (hok:OkP P) (r:Int) :
  Ca (cF F) 18 [.sc y,iv r] st (fun v s=>Fr st s∧v=iv (boundsV P r)):=by
 refine Ca.of (hf:=cf18) rfl rfl [q0,q1] [.tmp q4] rfl rfl rfl fun Q hQ=>?_
 refine Ru.rs fun P' hP=>Rg.ret (hP _ _ ?_)
 clear hP P'
 have ret:∀ (ρ:Ev) (t:St) (n:Int) (Q':X→Ev→St→Prop),Q' .ret=Q .ret→Fr st t→n=boundsV P r→Ru (cF F) (.seq (.reg [q4] fun c r s K=>K [iv n] s) .ret) ρ t Q':=fun ρ t n Q' hq hf hn=>by
  refine Ru.sreg (Rg.ret (Ru.ret ?_))
  rw [hq]
  exact hQ _ _ (.one rfl ⟨hf,congrArg iv hn⟩)
 refine Ru.seq (Ru.rs fun P' hP=>?_)
 simp -implicitDefEqProofs (disch:=first|decide|omega)
 refine Rg.call (rvalid_ok hw hp hok) fun v s2 hv=>?_
 obtain ⟨f2,rfl⟩:=hv
 by_cases h0:validV P=0
 ·simp -implicitDefEqProofs +contextual (disch:=first|decide|omega) [-Bool.not_or,-Bool.not_and,h0]
  refine Rg.ret (hP _ _ ?_)
  clear hP P'
  refine Ru.cond rfl (fun h=>?_) fun h=>Ru.skip ?_
  ·simp at h
   exact ret _ _ 1 _ rfl f2 (by unfold boundsV;rw [if_pos (by omega)];rfl)
  simp at h
  simp only [Then,Out]
  obtain ⟨k,rfl⟩:=Int.eq_ofNat_of_zero_le (by omega:0≤r)
  refine Ru.seq (Ru.rs fun P' hP=>?_)
  simp -implicitDefEqProofs (disch:=first|decide|omega) [ishl1,lnS_sat hp]
  refine Rg.ret (hP _ _ ?_)
  clear hP P'
  have hb:boundsV P k=if 2 ^ k≤P.length then 3 else 0:=by unfold boundsV;rw [if_neg (by omega)];rfl
  refine Ru.cond rfl (fun h1=>?_) fun h1=>Ru.skip ?_
  ·simp [-Int.natCast_pow] at h1
   rw [show (2:Int) ^ k=((2 ^ k:Nat):Int) from (Int.natCast_pow 2 k).symm] at h1
   generalize 2 ^ k=m at h1 hb
   exact ret _ _ 3 _ rfl f2 (by rw [hb,if_pos (by omega)];rfl)
  ·simp [-Int.natCast_pow] at h1
   rw [show (2:Int) ^ k=((2 ^ k:Nat):Int) from (Int.natCast_pow 2 k).symm] at h1
   generalize 2 ^ k=m at h1 hb
   simp only [Then,Out]
   exact ret _ _ 0 _ rfl f2 (by rw [hb,if_neg (by omega)];rfl)
 ·simp -implicitDefEqProofs +contextual (disch:=first|decide|omega) [-Bool.not_or,-Bool.not_and,h0]
  refine Rg.ret (hP _ _ ?_)
  clear hP P'
  refine Ru.cond rfl (fun h=>?_) fun h=>?_
  ·exact ret _ _ 1 _ rfl f2 (by unfold boundsV;rw [if_pos (.inl h0)];rfl)
  ·simp at h
end
section
variable {st s t:St}{n i id off:Nat}
structure MSt where
 pc:Int
 r:List Nat
 m:List Nat
def mstC (g:MSt):List S:=is g.pc :: (g.r.map bs ++ g.m.map bs)
def OkM (g:MSt):Prop:=g.r.length=4∧g.m.length=16∧(∀ x∈g.r,x<256)∧∀ x∈g.m,x<256
theorem OkM.len {g:MSt} (h:OkM g):(mstC g).length=21:=by simp [mstC,h.1,h.2.1]
theorem mvalid_ok (hw:WfS st) (hh:holdsAll st.heap l0=true) {y:S}{P:List InsD} (hp:RepP st y P) (hok:OkP P) (g:MSt) :
  Ca (cF F) 30 [.sc y,.agg (mstC g)] st (fun v s=>Fr st s∧v=bl (decide (0≤g.pc∧g.pc≤P.length∧validV P=0))):=by
 refine Ca.of (hf:=cf30) rfl rfl [q0,q1] [.tmp q4] rfl rfl rfl fun Q hQ=>?_
 have f1:Fr st (new st (mstC g)):=(Fr.refl hw).new _
 have b1:Bx (new st (mstC g)) st.next (mstC g):=Bx.new
 refine Ru.rs fun P hP=>?_
 simp -implicitDefEqProofs (disch:=first|decide|omega)
 refine Rg.ret (hP _ _ ?_)
 clear hP P
 generalize new st (mstC g)=s1 at *
 refine Ru.rs fun P' hP=>?_
 simp -implicitDefEqProofs +contextual (disch:=first|decide|omega) [-Bool.not_or,-Bool.not_and,b1.rd 0 _ rfl,lnS_sat (hp.fr f1)]
 by_cases hc:0≤g.pc∧g.pc≤P.length
 ·simp -implicitDefEqProofs +contextual (disch:=first|decide|omega) [hc.1,hc.2]
  refine Rg.call (valid_ok f1.wf (holdsAll_fr f1 hh) (hp.fr f1) hok) fun v s2 hv=>?_
  obtain ⟨f2,rfl⟩:=hv
  simp -implicitDefEqProofs +contextual (disch:=first|decide|omega)
  refine Rg.ret (hP _ _ (Ru.ret (hQ _ _ (.one rfl ⟨f1.trans f2,congrArg bl (?_:_=_)⟩))))
  rw [Bool.eq_iff_iff]
  simp [hc]
 ·have e:(leI 0 g.pc && leI g.pc P.length)=false:=by
   rw [Bool.eq_false_iff];simp;omega
  simp -implicitDefEqProofs +contextual (disch:=first|decide|omega) [e]
  refine Rg.ret (hP _ _ (Ru.ret (hQ _ _ (.one rfl ⟨f1,congrArg bl (?_:_=_)⟩))))
  symm
  rw [decide_eq_false_iff_not]
  omega
theorem rmvalid_ok (hw:WfS st) {y:S}{P:List InsD} (hp:RepP st y P) (hok:OkP P) (g:MSt) :
  Ca (cF F) 43 [.sc y,.agg (mstC g)] st (fun v s=>Fr st s∧v=bl (decide (0≤g.pc∧g.pc≤P.length∧validV P=0))):=by
 refine Ca.of (hf:=cf43) rfl rfl [q0,q1] [.tmp q4] rfl rfl rfl fun Q hQ=>?_
 have f1:Fr st (new st (mstC g)):=(Fr.refl hw).new _
 have b1:Bx (new st (mstC g)) st.next (mstC g):=Bx.new
 refine Ru.rs fun P hP=>?_
 simp -implicitDefEqProofs (disch:=first|decide|omega)
 refine Rg.ret (hP _ _ ?_)
 clear hP P
 generalize new st (mstC g)=s1 at *
 refine Ru.rs fun P' hP=>?_
 simp -implicitDefEqProofs (disch:=first|decide|omega)
 refine Rg.call (rvalid_ok f1.wf (hp.fr f1) hok) fun v s2 hv=>?_
 obtain ⟨f2,rfl⟩:=hv
 simp -implicitDefEqProofs +contextual (disch:=first|decide|omega) [-Bool.not_or,-Bool.not_and,(b1.fr f2).rd 0 _ rfl,lnS_sat (hp.fr (f1.trans f2))]
 refine Rg.ret (hP _ _ (Ru.ret (hQ _ _ (.one rfl ⟨f1.trans f2,congrArg bl (?_:_=_)⟩))))
 rw [Bool.eq_iff_iff]
 simp
 omega
def mbV (P:List InsD) (g:MSt) (n:Int):Nat:=if ¬ (0≤g.pc∧g.pc≤P.length∧validV P=0)∨n<0 then 1 else if 65536<n then 3 else 0
theorem mbound_ok (hw:WfS st) (hh:holdsAll st.heap l0=true) {y:S}{P:List InsD} (hp:RepP st y P) (hok:OkP P) (g:MSt) (hg:OkM g) (n:Int) :
  Ca (cF F) 27 [.sc y,.agg (mstC g),iv n] st (fun v s=>Fr st s∧v=iv (mbV P g n)):=by
 refine Ca.of (hf:=cf27) rfl rfl [q0,q1,q2] [.tmp q6] rfl rfl rfl fun Q hQ=>?_
 have f1:Fr st (new st (mstC g)):=(Fr.refl hw).new _
 have b1:Bx (new st (mstC g)) st.next (mstC g):=Bx.new
 refine Ru.rs fun P hP=>?_
 simp -implicitDefEqProofs (disch:=first|decide|omega)
 refine Rg.ret (hP _ _ ?_)
 clear hP P
 generalize new st (mstC g)=s1 at *
 have ret:∀ (ρ:Ev) (t:St) (k:Int) (Q':X→Ev→St→Prop),Q' .ret=Q .ret→Fr st t→k=mbV P g n→Ru (cF F) (.seq (.reg [q6] fun c r s K=>K [iv k] s) .ret) ρ t Q':=fun ρ t k Q' hq hf hn=>by
  refine Ru.sreg (Rg.ret (Ru.ret ?_))
  rw [hq]
  exact hQ _ _ (.one rfl ⟨hf,congrArg iv hn⟩)
 refine Ru.seq (Ru.block (Ru.rs fun P' hP=>?_))
 simp -implicitDefEqProofs (disch:=first|decide|omega) [b1.N (n:=21) hg.len]
 refine Rg.call (mvalid_ok f1.wf (holdsAll_fr f1 hh) (hp.fr f1) hok g) fun v s2 hv=>?_
 obtain ⟨f2,rfl⟩:=hv
 generalize hb:decide (0≤g.pc∧g.pc≤P.length∧validV P=0)=b
 have hb':mbV P g n=if b=false∨n<0 then 1 else if 65536<n then 3 else 0:=by
  unfold mbV;rw [← hb];simp only [decide_eq_false_iff_not]
 simp -implicitDefEqProofs +contextual (disch:=first|decide|omega) [-Bool.not_or,-Bool.not_and]
 refine Rg.ret (hP _ _ ?_)
 clear hP P'
 refine Ru.cond rfl (fun h=>?_) fun h=>?_
 ·simp at h
  exact ret _ _ 1 _ rfl (f1.trans f2) (by rw [hb',if_pos h];rfl)
 simp at h
 refine Ru.rs fun P' hP=>?_
 simp -implicitDefEqProofs (disch:=first|decide|omega)
 refine Rg.ret (hP _ _ ?_)
 clear hP P'
 refine Ru.cond rfl (fun h1=>?_) fun h1=>Ru.skip ?_
 ·simp at h1
  exact ret _ _ 3 _ rfl (f1.trans f2) (by rw [hb',if_neg (by simp [h]),if_pos h1];rfl)
 ·simp at h1
  simp only [Then,Out]
  exact ret _ _ 0 _ rfl (f1.trans f2) (by rw [hb',if_neg (by simp [h]),if_neg (by omega)];rfl)
theorem rmbound_ok (hw:WfS st) {y:S}{P:List InsD} (hp:RepP st y P) (hok:OkP P) (g:MSt) (hg:OkM g) (n:Int) :
  Ca (cF F) 41 [.sc y,.agg (mstC g),iv n] st (fun v s=>Fr st s∧v=iv (mbV P g n)):=by
 refine Ca.of (hf:=cf41) rfl rfl [q0,q1,q2] [.tmp q6] rfl rfl rfl fun Q hQ=>?_
 have f1:Fr st (new st (mstC g)):=(Fr.refl hw).new _
 have b1:Bx (new st (mstC g)) st.next (mstC g):=Bx.new
 refine Ru.rs fun P hP=>?_
 simp -implicitDefEqProofs (disch:=first|decide|omega)
 refine Rg.ret (hP _ _ ?_)
 clear hP P
 generalize new st (mstC g)=s1 at *
 have ret:∀ (ρ:Ev) (t:St) (k:Int) (Q':X→Ev→St→Prop),Q' .ret=Q .ret→Fr st t→k=mbV P g n→Ru (cF F) (.seq (.reg [q6] fun c r s K=>K [iv k] s) .ret) ρ t Q':=fun ρ t k Q' hq hf hn=>by
  refine Ru.sreg (Rg.ret (Ru.ret ?_))
  rw [hq]
  exact hQ _ _ (.one rfl ⟨hf,congrArg iv hn⟩)
 refine Ru.seq (Ru.rs fun P' hP=>?_)
 simp -implicitDefEqProofs (disch:=first|decide|omega) [b1.N (n:=21) hg.len]
 refine Rg.call (rmvalid_ok f1.wf (hp.fr f1) hok g) fun v s2 hv=>?_
 obtain ⟨f2,rfl⟩:=hv
 generalize hb:decide (0≤g.pc∧g.pc≤P.length∧validV P=0)=b
 have hb':mbV P g n=if b=false∨n<0 then 1 else if 65536<n then 3 else 0:=by
  unfold mbV;rw [← hb];simp only [decide_eq_false_iff_not]
 simp -implicitDefEqProofs +contextual (disch:=first|decide|omega) [-Bool.not_or,-Bool.not_and]
 refine Rg.ret (hP _ _ ?_)
 clear hP P'
 refine Ru.cond rfl (fun h=>?_) fun h=>Ru.skip ?_
 ·simp at h
  exact ret _ _ 1 _ rfl (f1.trans f2) (by rw [hb',if_pos h];rfl)
 simp at h
 simp only [Then,Out]
 refine Ru.seq (Ru.rs fun P' hP=>?_)
 simp -implicitDefEqProofs (disch:=first|decide|omega)
 refine Rg.ret (hP _ _ ?_)
 clear hP P'
 refine Ru.cond rfl (fun h1=>?_) fun h1=>Ru.skip ?_
 ·simp at h1
  exact ret _ _ 3 _ rfl (f1.trans f2) (by rw [hb',if_neg (by simp [h]),if_pos h1];rfl)
 ·simp at h1
  simp only [Then,Out]
  exact ret _ _ 0 _ rfl (f1.trans f2) (by rw [hb',if_neg (by simp [h]),if_neg (by omega)];rfl)
theorem rfetch_ok (hw:WfS st) {y:S}{P:List InsD} (hp:RepP st y P) (i:Int) :
  Ca (cF F) 44 [.sc y,iv i] st (fun v s=>Fr st s∧v=.agg (insC (fetchV P i))):=by
 refine Ca.of (hf:=cf44) rfl rfl [q0,q1] [.cellN n4 q4] rfl rfl rfl fun Q hQ=>?_
 refine Ru.rs fun P hP=>?_
 simp -implicitDefEqProofs (disch:=first|decide|omega)
 refine Rg.ret (hP _ _ ?_)
 clear hP P
 have f1:Fr st (new st [bs 0,bs 0,bs 0,bs 0]):=(Fr.refl hw).new _
 have b1:Bx (new st [bs 0,bs 0,bs 0,bs 0]) st.next [bs 0,bs 0,bs 0,bs 0]:=Bx.new
 generalize new st [bs 0,bs 0,bs 0,bs 0]=s1 at *
 have hp1:RepP s1 y P:=hp.fr f1
 have fin:∀ (ρ:Ev) (g:InsD) (Q':X→Ev→St→Prop),(∀ ρ s,Q .ret ρ s→Q' .ret ρ s)→ρ q4=.sc (.ptr st.next 0)→g=fetchV P i→Ru (cF F) .ret ρ (wr s1 st.next 0 (insC g)) Q':=fun ρ g Q' hQ' h4 hg=>by
  have kw:=b1.kpw f1.wf (i:=0) (insC g)
  have b2:=b1.setN (l':=insC g) rfl
  exact Ru.ret (hQ' _ _ (hQ _ _ (resP.cells (n:=3) (id:=st.next) (off:=0) (l:=insC g) h4 (b2.N rfl) ⟨kw.fr f1 (fun id h=>by cases h;exact Nat.le_refl _) hw,by rw [hg]⟩)))
 refine Ru.seq (Ru.rs fun P' hP=>?_)
 simp -implicitDefEqProofs +contextual (disch:=first|decide|omega) [-Bool.not_or,-Bool.not_and,lnS_sat hp1]
 refine Rg.ret (hP _ _ ?_)
 clear hP P'
 refine Ru.cond rfl (fun h=>?_) fun h=>Ru.skip ?_
 ·refine Ru.rs fun P' hP=>?_
  have hst:∀ K:St→R,Ev.sto s1 4 (.sc (.ptr st.next 0)) (.agg [bs 0,bs 0,bs 0,bs 0]) K=K (wr s1 st.next 0 (insC ins0)):=fun K=>b1.stoN (l':=insC ins0) (n:=4) rfl rfl K
  simp -implicitDefEqProofs (disch:=first|decide|omega) [build_eq,fill_nil,hst]
  refine Rg.ret (hP _ _ (fin _ ins0 _ (fun ρ s h=>h) rfl ?_))
  unfold fetchV
  rw [if_neg]
  simp at h
  omega
 ·simp at h
  obtain ⟨j,rfl⟩:=Int.eq_ofNat_of_zero_le (by omega:0≤i)
  have hj:j<P.length:=by omega
  obtain ⟨id,o,hix,hrN,_,_⟩:=eltZ (insC_len P) hp1 (List.getElem?_eq_getElem hj)
  simp only [Then]
  refine Ru.rs fun P' hP=>?_
  have hst:∀ K:St→R,Ev.sto s1 4 (.sc (.ptr st.next 0)) (.agg (insC P[j])) K=K (wr s1 st.next 0 (insC P[j])):=fun K=>b1.stoN (l':=insC P[j]) (n:=4) rfl rfl K
  simp -implicitDefEqProofs (disch:=first|decide|omega) [hix,hrN,hst]
  refine Rg.ret (hP _ _ (fin _ P[j] _ (fun ρ s h=>h) rfl ?_))
  unfold fetchV
  rw [if_pos (by omega)]
  simp [List.getD_eq_getElem?_getD,hj]
theorem eqv_ints' {ts:List Nat}{a b:List S} (h:All2 IntK a b) (ht:ts=List.replicate a.length 1):∃ e,(∀ (c:CallK) (r:Ev) (K:V→St→R),h_op4_eqv (.flat ts) false (.c (.agg a)) (.c (.agg b)) c r st K=K (bl e) st)∧(e=true↔a=b):=by
 obtain ⟨e,h1,h2⟩:=eqL_ints h
 refine ⟨e,fun c r K=>?_,h2⟩
 subst ht
 show eqK false (fun v=>K v st) (if Nat.beq (lenL a) (lenL (List.replicate a.length 1))=true then if Nat.beq (lenL b) (lenL (List.replicate a.length 1))=true then eqL (List.replicate a.length 1) a b else none else none)=_
 rw [lenL_eq,lenL_eq,lenL_eq,List.length_replicate,← h.length,Nat.beq_refl,if_pos rfl,if_pos rfl,h1]
 cases e <;> rfl
theorem intK_bs (a b:Nat):IntK (bs a) (bs b):=⟨_,_,_,rfl,rfl⟩
theorem fld0 (o:Nat) (l:List S) (K:V→R):fld 0 1 false (.agg (bs o :: l)) K=K (bv o):=rfl
def haltV (P:List InsD) (g:MSt):Bool:=decide ((0≤g.pc∧g.pc≤P.length∧validV P=0)∧fetchV P g.pc=ins0)
theorem halted_ok (hw:WfS st) (hh:holdsAll st.heap l0=true) {y:S}{P:List InsD} (hp:RepP st y P) (hok:OkP P) (g:MSt) (hg:OkM g) :
  Ca (cF F) 14 [.sc y,.agg (mstC g)] st (fun v s=>Fr st s∧v=bl (haltV P g)):=by
 refine Ca.of (hf:=cf14) rfl rfl [q0,q1] [.tmp q4] rfl rfl rfl fun Q hQ=>?_
 have f1:Fr st (new st (mstC g)):=(Fr.refl hw).new _
 have b1:Bx (new st (mstC g)) st.next (mstC g):=Bx.new
 refine Ru.rs fun P hP=>?_
 simp -implicitDefEqProofs (disch:=first|decide|omega)
 refine Rg.ret (hP _ _ ?_)
 clear hP P
 generalize new st (mstC g)=s1 at *
 refine Ru.rs fun P' hP=>?_
 simp -implicitDefEqProofs (disch:=first|decide|omega) [b1.N (n:=21) hg.len]
 refine Rg.call (mvalid_ok f1.wf (holdsAll_fr f1 hh) (hp.fr f1) hok g) fun v s2 hv=>?_
 obtain ⟨f2,rfl⟩:=hv
 by_cases hc:0≤g.pc∧g.pc≤P.length∧validV P=0
 ·simp -implicitDefEqProofs (disch:=first|decide|omega) [hc,(b1.fr f2).rd 0 _ rfl]
  refine Rg.call (fetch_ok f2.wf (hp.fr (f1.trans f2)) g.pc) fun v s3 hv=>?_
  obtain ⟨f3,rfl⟩:=hv
  simp -implicitDefEqProofs (disch:=first|decide|omega) [build_eq,fill_nil]
  obtain ⟨e,he,he2⟩:=eqv_ints' (st:=s3) (ts:=[1,1,1,1]) (a:=insC (fetchV P g.pc)) (b:=[bs 0,bs 0,bs 0,bs 0]) (.cons (intK_bs _ _) (.cons (intK_bs _ _) (.cons (intK_bs _ _) (.cons (intK_bs _ _) .nil)))) rfl
  simp -implicitDefEqProofs (disch:=first|decide|omega) [he]
  refine Rg.ret (hP _ _ (Ru.ret (hQ _ _ (.one rfl ⟨(f1.trans f2).trans f3,congrArg bl (?_:_=_)⟩))))
  rw [Bool.eq_iff_iff,he2]
  unfold haltV
  rw [decide_eq_true_iff]
  generalize fetchV P g.pc=f
  constructor
  ·intro h
   refine ⟨hc, ?_⟩
   cases f
   simp [insC,bs] at h
   obtain ⟨h1,h2,h3,h4⟩:=h
   subst h1 h2 h3 h4;rfl
  ·intro h;rw [h.2];rfl
 ·simp -implicitDefEqProofs (disch:=first|decide|omega) [hc]
  refine Rg.ret (hP _ _ (Ru.ret (hQ _ _ (.one rfl ⟨f1.trans f2,congrArg bl (?_:_=_)⟩))))
  symm
  unfold haltV
  rw [decide_eq_false_iff_not]
  exact fun h=>hc h.1
theorem rhalted_ok (hw:WfS st) {y:S}{P:List InsD} (hp:RepP st y P) (hok:OkP P) (g:MSt) (hg:OkM g) :
  Ca (cF F) 21 [.sc y,.agg (mstC g)] st (fun v s=>Fr st s∧v=bl (decide ((0≤g.pc∧g.pc≤P.length∧validV P=0)∧(fetchV P g.pc).o=0))):=by
 refine Ca.of (hf:=cf21) rfl rfl [q0,q1] [.tmp q4] rfl rfl rfl fun Q hQ=>?_
 have f1:Fr st (new st (mstC g)):=(Fr.refl hw).new _
 have b1:Bx (new st (mstC g)) st.next (mstC g):=Bx.new
 refine Ru.rs fun P hP=>?_
 simp -implicitDefEqProofs (disch:=first|decide|omega)
 refine Rg.ret (hP _ _ ?_)
 clear hP P
 generalize new st (mstC g)=s1 at *
 refine Ru.rs fun P' hP=>?_
 simp -implicitDefEqProofs (disch:=first|decide|omega) [b1.N (n:=21) hg.len]
 refine Rg.call (rmvalid_ok f1.wf (hp.fr f1) hok g) fun v s2 hv=>?_
 obtain ⟨f2,rfl⟩:=hv
 by_cases hc:0≤g.pc∧g.pc≤P.length∧validV P=0
 ·simp -implicitDefEqProofs (disch:=first|decide|omega) [hc,(b1.fr f2).rd 0 _ rfl]
  refine Rg.call (rfetch_ok f2.wf (hp.fr (f1.trans f2)) g.pc) fun v s3 hv=>?_
  obtain ⟨f3,rfl⟩:=hv
  simp only [insC]
  simp -implicitDefEqProofs (disch:=first|decide|omega) [fld0]
  refine Rg.ret (hP _ _ (Ru.ret (hQ _ _ (.one rfl ⟨(f1.trans f2).trans f3,congrArg bl (?_:_=_)⟩))))
  rw [Bool.eq_iff_iff]
  simp [hc]
 ·simp -implicitDefEqProofs (disch:=first|decide|omega) [hc]
  refine Rg.ret (hP _ _ (Ru.ret (hQ _ _ (.one rfl ⟨f1.trans f2,congrArg bl (?_:_=_)⟩))))
  symm
  rw [decide_eq_false_iff_not]
  exact fun h=>hc h.1
end
section
variable {st s t:St}{n i id off:Nat}
def startM (l:List Nat):MSt:=⟨0,l,List.replicate 16 0⟩
abbrev z21:List S:=[is 0,bs 0,bs 0,bs 0,bs 0,bs 0,bs 0,bs 0,bs 0,bs 0,bs 0,bs 0,bs 0,bs 0,bs 0,bs 0,bs 0,bs 0,bs 0,bs 0,bs 0]
theorem startC_len {l:List Nat} (h:l.length=4):(mstC (startM l)).length=21:=by simp [mstC,startM,h]
theorem start_fill {l:List Nat} (h:l.length=4):setRange z21 1 (l.map bs)=mstC (startM l):=by
 obtain ⟨a,b,c,d,rfl⟩:∃ a b c d,l=[a,b,c,d]:=by
  match l,h with
  | [a,b,c,d],_=>exact ⟨a,b,c,d,rfl⟩
 rfl
theorem start_ok (hw:WfS st) (l:List Nat) (hl:l.length=4) :
  Ca (cF F) 13 [.agg (l.map bs)] st (fun v s=>Fr st s∧v=.agg (mstC (startM l))):=by
 refine Ca.of (hf:=cf13) rfl rfl [q0] [.cellN n21 q2] rfl rfl rfl fun Q hQ=>?_
 have f1:Fr st (new st (l.map bs)):=(Fr.refl hw).new _
 have b1:Bx (new st (l.map bs)) st.next (l.map bs):=Bx.new
 have f2:Fr (new st (l.map bs)) (new (new st (l.map bs)) z21):=(Fr.refl f1.wf).new _
 have b2:Bx (new (new st (l.map bs)) z21) (new st (l.map bs)).next z21:=Bx.new
 refine Ru.rs fun P hP=>?_
 simp -implicitDefEqProofs (disch:=first|decide|omega)
 refine Rg.ret (hP _ _ ?_)
 clear hP P
 have hn:(new st (l.map bs)).next=st.next+1:=rfl
 show Ru _ _ _ (new (new st (l.map bs)) z21) _
 generalize new st (l.map bs)=s1 at *
 generalize new s1 z21=s2 at *
 have hN:rdN s2 st.next 0 4=some (l.map bs):=(b1.fr f2).N (by simp [hl])
 have ls:=startC_len hl
 have hfill:∀ tm K,fillK tm K [(1,4,.c (.agg (l.map bs)))] z21=K (mstC (startM l)):=fun tm K=>by
  rw [fill_agg tm K _ 1 _ 4 [] (by simp [hl]) (by simp [setRange]),fill_nil]
  exact congrArg K (start_fill hl)
 have hst:∀ K:St→R,Ev.sto s2 21 (.sc (.ptr s1.next 0)) (.agg (mstC (startM l))) K=K (wr s2 s1.next 0 (mstC (startM l))):=fun K=>b2.stoN (ls.trans rfl) rfl K
 rw [hn] at hst b2
 refine Ru.rs fun P hP=>?_
 simp -implicitDefEqProofs (disch:=first|decide|omega) [hN,build_eq,hfill,hst]
 refine Rg.ret (hP _ _ ?_)
 clear hP P
 have hs2:WfS s2:=f2.wf
 have kw:=b2.kpw hs2 (i:=0) (mstC (startM l))
 have b3:=b2.setN (l':=mstC (startM l)) (ls.trans rfl)
 exact Ru.ret (hQ _ _ (resP.cells (n:=20) (id:=st.next+1) (off:=0) (l:=mstC (startM l)) rfl (b3.N ls) ⟨kw.fr (f1.trans f2) (fun id h=>by cases h;omega) hw,rfl⟩))
theorem rstart_ok (hw:WfS st) (l:List Nat) (hl:l.length=4) :
  Ca (cF F) 20 [.agg (l.map bs)] st (fun v s=>Fr st s∧v=.agg (mstC (startM l))):=by
 refine Ca.of (hf:=cf20) rfl rfl [q0] [.cellN n21 q2] rfl rfl rfl fun Q hQ=>?_
 have f1:Fr st (new st (l.map bs)):=(Fr.refl hw).new _
 have b1:Bx (new st (l.map bs)) st.next (l.map bs):=Bx.new
 have f2:Fr (new st (l.map bs)) (new (new st (l.map bs)) z21):=(Fr.refl f1.wf).new _
 have b2:Bx (new (new st (l.map bs)) z21) (new st (l.map bs)).next z21:=Bx.new
 refine Ru.rs fun P hP=>?_
 simp -implicitDefEqProofs (disch:=first|decide|omega)
 refine Rg.ret (hP _ _ ?_)
 clear hP P
 have hn:(new st (l.map bs)).next=st.next+1:=rfl
 show Ru _ _ _ (new (new st (l.map bs)) z21) _
 generalize new st (l.map bs)=s1 at *
 generalize new s1 z21=s2 at *
 have hN:rdN s2 st.next 0 4=some (l.map bs):=(b1.fr f2).N (by simp [hl])
 have ls:=startC_len hl
 have hfill:∀ tm K,fillK tm K [(1,4,.c (.agg (l.map bs)))] z21=K (mstC (startM l)):=fun tm K=>by
  rw [fill_agg tm K _ 1 _ 4 [] (by simp [hl]) (by simp [setRange]),fill_nil]
  exact congrArg K (start_fill hl)
 have hst:∀ K:St→R,Ev.sto s2 21 (.sc (.ptr s1.next 0)) (.agg (mstC (startM l))) K=K (wr s2 s1.next 0 (mstC (startM l))):=fun K=>b2.stoN (ls.trans rfl) rfl K
 rw [hn] at hst b2
 refine Ru.rs fun P hP=>?_
 simp -implicitDefEqProofs (disch:=first|decide|omega) [hN,build_eq,hfill,hst]
 refine Rg.ret (hP _ _ ?_)
 clear hP P
 have hs2:WfS s2:=f2.wf
 have kw:=b2.kpw hs2 (i:=0) (mstC (startM l))
 have b3:=b2.setN (l':=mstC (startM l)) (ls.trans rfl)
 exact Ru.ret (hQ _ _ (resP.cells (n:=20) (id:=st.next+1) (off:=0) (l:=mstC (startM l)) rfl (b3.N ls) ⟨kw.fr (f1.trans f2) (fun id h=>by cases h;omega) hw,rfl⟩))
end
section
variable {st s t:St}{n i id off:Nat}
theorem wrap_u8m (x:Int):IntKind.u8.wrap x=x % 256:=by
 unfold IntKind.wrap
 simp [IntKind.bits,IntKind.signed]
theorem badd8 (a b:Nat) (K:V→R):binK .add (bv a) (bv b) K=K (bv ((a+b) % 256)):=by
 rw [show binK .add (bv a) (bv b) K=_ from bin_add _ _ _ _,wrap_u8m]
 rw [show ((a:Int)+b) % 256=(((a+b) % 256:Nat):Int) by omega];rfl
theorem bsub8 (a b:Nat) (K:V→R) (ha:a<256) (hb:b<256):binK .sub (bv a) (bv b) K=K (bv ((a+256 - b) % 256)):=by
 rw [show binK .sub (bv a) (bv b) K=_ from bin_sub _ _ _ _,wrap_u8m]
 rw [show ((a:Int) - b) % 256=(((a+256 - b) % 256:Nat):Int) by omega];rfl
theorem bmul8 (a b:Nat) (K:V→R):binK .mul (bv a) (bv b) K=K (bv ((a * b) % 256)):=by
 rw [show binK .mul (bv a) (bv b) K=_ from bin_mul _ _ _ _,wrap_u8m]
 rw [show ((a:Int) * b) % 256=(((a * b) % 256:Nat):Int) by rw [Int.natCast_emod,Int.natCast_mul];rfl];rfl
theorem ar1_ok (hw:WfS st) (x y:Nat) (hx:x<256) (hy:y<256):Ca (cF F) 73 [bv x,bv y] st (fun v s=>s=st∧v=bv (y)):=by
 refine Ca.of (hf:=cf73) rfl rfl [q0,q1] [.tmp q4] rfl rfl rfl fun Q hQ=>?_
 refine Ru.rs fun P' hP=>Rg.ret (hP _ _ ?_)
 clear hP P'
 refine Ru.rs fun P' hP=>?_
 simp -implicitDefEqProofs (disch:=first|decide|omega) [badd8]
 exact Rg.ret (hP _ _ (Ru.ret (hQ _ _ (.one rfl ⟨rfl,rfl⟩))))
theorem ar2_ok (hw:WfS st) (x y:Nat) (hx:x<256) (hy:y<256):Ca (cF F) 74 [bv x,bv y] st (fun v s=>s=st∧v=bv ((x+y) % 256)):=by
 refine Ca.of (hf:=cf74) rfl rfl [q0,q1] [.tmp q4] rfl rfl rfl fun Q hQ=>?_
 refine Ru.rs fun P' hP=>Rg.ret (hP _ _ ?_)
 clear hP P'
 refine Ru.rs fun P' hP=>?_
 simp -implicitDefEqProofs (disch:=first|decide|omega) [badd8]
 exact Rg.ret (hP _ _ (Ru.ret (hQ _ _ (.one rfl ⟨rfl,rfl⟩))))
theorem ar3_ok (hw:WfS st) (x y:Nat) (hx:x<256) (hy:y<256):Ca (cF F) 75 [bv x,bv y] st (fun v s=>s=st∧v=bv ((x+256 - y) % 256)):=by
 refine Ca.of (hf:=cf75) rfl rfl [q0,q1] [.tmp q4] rfl rfl rfl fun Q hQ=>?_
 refine Ru.rs fun P' hP=>Rg.ret (hP _ _ ?_)
 clear hP P'
 refine Ru.rs fun P' hP=>?_
 simp -implicitDefEqProofs (disch:=first|decide|omega) [bsub8]
 exact Rg.ret (hP _ _ (Ru.ret (hQ _ _ (.one rfl ⟨rfl,rfl⟩))))
theorem ar4_ok (hw:WfS st) (x y:Nat) (hx:x<256) (hy:y<256):Ca (cF F) 76 [bv x,bv y] st (fun v s=>s=st∧v=bv ((x * y) % 256)):=by
 refine Ca.of (hf:=cf76) rfl rfl [q0,q1] [.tmp q4] rfl rfl rfl fun Q hQ=>?_
 refine Ru.rs fun P' hP=>Rg.ret (hP _ _ ?_)
 clear hP P'
 refine Ru.rs fun P' hP=>?_
 simp -implicitDefEqProofs (disch:=first|decide|omega) [bmul8]
 exact Rg.ret (hP _ _ (Ru.ret (hQ _ _ (.one rfl ⟨rfl,rfl⟩))))
def arV (o x y:Nat):Nat:=if o=2 then y else if o=3 then (x+y) % 256 else if o=4 then (x+256 - y) % 256 else (x * y) % 256
theorem arV_lt {o x y:Nat} (hx:x<256) (hy:y<256):arV o x y<256:=by
 unfold arV
 repeat' split
 all_goals omega
def arF (o:Nat):S:=if o=2 then .fn 73 else if o=3 then .fn 74 else if o=4 then .fn 75 else if o=5 then .fn 76 else .lit .nilFunc
theorem arith_ok (hw:WfS st) (o:Nat) (ho:o<256):Ca (cF F) 54 [bv o] st (fun v s=>s=st∧v=.tup [(false,[arF o]),(false,[.bool (decide (2≤o∧o≤5))])]):=by
 refine Ca.of (hf:=cf54) rfl rfl [q0] [.tmp q2,.tmp q3] rfl rfl rfl fun Q hQ=>?_
 refine Ru.rs fun P' hP=>Rg.ret (hP _ _ ?_)
 clear hP P'
 refine Ru.seq (Ru.rs fun P' hP=>Rg.ret (hP _ _ ?_))
 clear hP P'
 refine Ru.block ?_
 refine Ru.rs fun P' hP=>?_
 simp -implicitDefEqProofs (disch:=first|decide|omega)
 refine Rg.ret (hP _ _ ?_)
 clear hP P'
 refine Ru.cond rfl (fun h=>?_) fun h=>?_
 ·simp at h;subst h
  exact Ru.sreg (Rg.ret (Ru.ret (hQ _ _ (.two rfl rfl ⟨rfl,rfl⟩))))
 simp at h
 refine Ru.rs fun P' hP=>?_
 simp -implicitDefEqProofs (disch:=first|decide|omega)
 refine Rg.ret (hP _ _ ?_)
 clear hP P'
 refine Ru.cond rfl (fun h=>?_) fun h=>?_
 ·simp at h;subst h
  exact Ru.sreg (Rg.ret (Ru.ret (hQ _ _ (.two rfl rfl ⟨rfl,rfl⟩))))
 simp at h
 refine Ru.rs fun P' hP=>?_
 simp -implicitDefEqProofs (disch:=first|decide|omega)
 refine Rg.ret (hP _ _ ?_)
 clear hP P'
 refine Ru.cond rfl (fun h=>?_) fun h=>?_
 ·simp at h;subst h
  exact Ru.sreg (Rg.ret (Ru.ret (hQ _ _ (.two rfl rfl ⟨rfl,rfl⟩))))
 simp at h
 refine Ru.rs fun P' hP=>?_
 simp -implicitDefEqProofs (disch:=first|decide|omega)
 refine Rg.ret (hP _ _ ?_)
 clear hP P'
 refine Ru.cond rfl (fun h=>?_) fun h=>Ru.skip ?_
 ·simp at h;subst h
  exact Ru.sreg (Rg.ret (Ru.ret (hQ _ _ (.two rfl rfl ⟨rfl,rfl⟩))))
 simp at h
 simp only [Then,Out]
 refine Ru.sreg (Rg.ret (Ru.ret (hQ _ _ (.two rfl rfl ⟨rfl, ?_⟩))))
 have e1:arF o=.lit .nilFunc:=by unfold arF;simp [*]
 have e2:decide (2≤o∧o≤5)=false:=by rw [decide_eq_false_iff_not];omega
 rw [e1,e2]
end
section
variable {st s t:St}{n i id off:Nat}
def stepM (f:InsD) (g:MSt):MSt :=
 if f.o=0 then g
 else if f.o=1 then ⟨g.pc+1,g.r.set f.a f.m,g.m⟩
 else if f.o≤5 then ⟨g.pc+1,g.r.set f.a (arV f.o (g.r.getD f.a 0) (g.r.getD f.b 0)),g.m⟩
 else if f.o=6 then ⟨g.pc+1,g.r.set f.a (g.m.getD (g.r.getD f.b 0 % 16) 0),g.m⟩
 else if f.o=7 then ⟨g.pc+1,g.r,g.m.set (g.r.getD f.b 0 % 16) (g.r.getD f.a 0)⟩
 else if g.r.getD f.a 0≠0 then ⟨f.m,g.r,g.m⟩ else ⟨g.pc+1,g.r,g.m⟩
theorem errV_fits:∀ {l:List InsD}{n:Nat},errV l n=0→∀ g∈l,fitsV g=true∧landsV g n=true
 | [],_,_,g,hg=>by cases hg
 | a :: l,n,h,g,hg=>by
  unfold errV at h
  by_cases h1:fitsV a=false
  ·rw [if_pos h1] at h;cases h
  rw [if_neg h1] at h
  by_cases h2:landsV a n=false
  ·rw [if_pos h2] at h;cases h
  rw [if_neg h2] at h
  rcases List.mem_cons.1 hg with rfl | hg
  ·simp at h1 h2;exact ⟨h1,h2⟩
  ·exact errV_fits h g hg
theorem fetchV_halt {P:List InsD} (hv:validV P=0) (i:Int):fetchV P i=ins0↔(fetchV P i).o=0:=by
 constructor
 ·intro h;rw [h];rfl
 intro h
 unfold fetchV at h ⊢
 by_cases hi:0≤i∧i<P.length
 ·rw [if_pos hi] at h ⊢
  have he:errV P P.length=0:=by
   unfold validV at hv
   by_cases h3:32<P.length
   ·rw [if_pos h3] at hv;cases hv
   ·rw [if_neg h3] at hv;exact hv
  have hm:P.getD i.toNat ins0∈P:=by
   have:i.toNat<P.length:=by omega
   rw [List.getD_eq_getElem?_getD,List.getElem?_eq_getElem this]
   exact List.getElem_mem this
  generalize P.getD i.toNat ins0=g at *
  have:=(errV_fits he g hm).1
  unfold fitsV at this
  rw [decide_eq_true_iff] at this
  obtain ⟨o,a,b,m⟩:=g
  simp at this h
  subst h
  simp at this
  obtain ⟨_,_,h1,h2,h3⟩:=this
  subst h1 h2 h3;rfl
 ·rw [if_neg hi]
end
end Go.Proofs.YtkneccbdfpnnlaaGreatDoor.Ev
