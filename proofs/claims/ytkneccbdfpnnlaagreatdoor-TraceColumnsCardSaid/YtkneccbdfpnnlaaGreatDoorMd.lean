/- What the listed package variables hold, and the evaluator's runs, by the kernel; no conditions. -/
import Derived.Test.YtkneccbdfpnnlaaGreatDoorMc
import Derived.Test.YtkneccbdfpnnlaaGreatDoorL
import Derived.Test.YtkneccbdfpnnlaaGreatDoorChecked
namespace Go.Proofs.YtkneccbdfpnnlaaGreatDoor.Ev
set_option linter.unusedSimpArgs false
set_option linter.unusedVariables false
section
variable {st s t u:St}{n i id off a mid:Nat}
theorem setRange_app (z A B:List S) (hz:z.length=A.length+B.length):setRange (setRange z 0 A) A.length B=A ++ B:=by
 refine List.ext_getElem? fun i=>?_
 rw [setRange_get _ _ _ _ (by rw [setRange_length];omega),setRange_get _ _ _ _ (by omega)]
 by_cases h:i<A.length
 ·rw [if_neg (by omega),if_pos (by omega),List.getElem?_append_left h];rfl
 ·rw [List.getElem?_append_right (by omega)]
  by_cases h2:i<A.length+B.length
  ·rw [if_pos (by omega)]
  ·rw [if_neg (by omega),if_neg (by omega),List.getElem?_eq_none (by omega),List.getElem?_eq_none (by omega)]
theorem cols_ok (hw:WfS st) (hh:holdsAll st.heap l0=true) {y:S}{P:List InsD} (hp:RepP st y P) (hok:OkP P) {l:List Nat} (hl:l.length=4) (hl8:∀ x∈l,x<256) {r:Int} (hr:r≤7∨13<r) :
  Ca (cF F) 6 [.sc y,.agg (l.map bs),iv r] st (ColP st P l r):=by
 refine Ca.of (hf:=cf6) rfl rfl [q0,q1,q2] [.cellN n2 q6,.tmp q7] rfl rfl rfl fun Q hQ=>?_
 refine Ru.rs fun P' hP=>?_
 simp -implicitDefEqProofs (disch:=first|decide|omega)
 refine Rg.ret (hP _ _ ?_)
 clear hP P'
 have f1:Fr st (new st (l.map bs)):=(Fr.refl hw).new _
 have b1:Bx (new st (l.map bs)) st.next (l.map bs):=Bx.new
 have f2:Fr (new st (l.map bs)) (new (new st (l.map bs)) [.nils,.nils]):=(Fr.refl f1.wf).new _
 have b2:Bx (new (new st (l.map bs)) [.nils,.nils]) (st.next+1) [.nils,.nils]:=Bx.new
 replace b1:=b1.fr f2
 replace f2:=f1.trans f2
 show Ru _ _ _ (new (new st (l.map bs)) [.nils,.nils]) _
 generalize new (new st (l.map bs)) [.nils,.nils]=s2 at *
 clear f1
 have err:∀ (ρ:Ev) (s:St) (e:Nat) (Q':X→Ev→St→Prop),Q' .ret=Q .ret→Fr st s→Bx s (st.next+1) [.nils,.nils]→ρ q6=.sc (.ptr (st.next+1) 0)→ρ q7=iv e→(∀ v s,errP st e v s→ColP st P l r v s)→Ru (cF F) .ret ρ (wr s (st.next+1) 0 [.nils,.nils]) Q':=fun ρ s e Q' hq hf b e6 e7 hv=>by
  have kw:=b.kpw hf.wf (i:=0) [.nils,.nils]
  exact Ru.ret (hq▸hQ _ _ (resP.cellsTmp (n:=1) (id:=st.next+1) (off:=0) (l:=[.nils,.nils]) e6 ((b.setN (l':=[.nils,.nils]) rfl).N rfl) e7 (hv _ _ ⟨kw.fr hf (fun id h=>by cases h;omega) hw,rfl⟩)))
 refine Ru.seq (Ru.rs fun P' hP=>?_)
 simp -implicitDefEqProofs (disch:=first|decide|omega)
 refine Rg.call (bounds_ok f2.wf (holdsAll_fr f2 hh) (hp.fr f2) hok r) fun v s3 hv3=>?_
 obtain ⟨f3,rfl⟩:=hv3
 refine Rg.ret (hP _ _ ?_)
 clear hP P'
 replace b1:=b1.fr f3
 replace b2:=b2.fr f3
 replace f3:=f2.trans f3
 clear f2 s2
 refine Ru.rs fun P' hP=>?_
 simp -implicitDefEqProofs (disch:=first|decide|omega)
 refine Rg.ret (hP _ _ ?_)
 clear hP P'
 refine Ru.cond rfl (fun h=>?_) fun h=>Ru.skip ?_
 ·have hb0:boundsV P r≠0:=by simpa using h
  refine Ru.rs fun P' hP=>?_
  simp -implicitDefEqProofs (disch:=first|decide|omega) [build_eq,fill_nil,b2.stoN (l':=[.nils,.nils]) (n:=2) rfl rfl]
  refine Rg.ret (hP _ _ ?_)
  clear hP P'
  exact err _ _ (boundsV P r) _ rfl f3 b2 rfl rfl fun v s hv=>by unfold ColP;rw [if_pos hb0];exact hv
 have hb0:boundsV P r=0:=by simpa using h
 simp only [Then]
 obtain ⟨hv,hr4,hr13,hpn⟩:=bounds0 hb0
 obtain ⟨k,rfl⟩:=Int.eq_ofNat_of_zero_le (by omega:0≤r)
 rw [Int.toNat_natCast] at hpn
 have hcp:∀ v s,(if (fetchV P (lastM P (startM l) (2 ^ k)).pc).o≠0 then errP st 8 v s else TrcV st (fullV P (startM l) (2 ^ k)) (l ++ (lastM P (startM l) (2 ^ k)).r) (2 ^ k) v s)→ColP st P l k v s:=fun v s hx=>by
  unfold ColP;rw [if_neg (fun hne=>hne hb0),Int.toNat_natCast];exact hx
 have hn16:16≤2 ^ k:=by
  have:=Nat.pow_le_pow_right (n:=2) (by decide) (show 4≤k by omega)
  simpa using this
 have hn128:2 ^ k≤128:=by
  have:=Nat.pow_le_pow_right (n:=2) (by decide) (show k≤7 by omega)
  simpa using this
 have hsh:∀ (c:CallK) (r:Ev) (K:V→St→R) (s:St),xS true (iv 1) (iv k) c r s K=K (iv ((2 ^ k:Nat):Int)) s:=fun c r K s=>ishl1 k c r K (by omega)
 have hGs:=start_okR (P:=P) hl hl8
 generalize 2 ^ k=n at *
 have hlt1:=b1.lt
 refine Ru.ds fun P' hP=>?_
 simp -implicitDefEqProofs (disch:=first|decide|omega) [dN_low,b1.N (n:=4) (by simp [hl])]
 refine Rg.dc (fun v=>v=.agg (mstC (startM l))) f3.wf (by decide) (by decide) (start_ok (wf_setLow (h:=f3.wf)) l hl) fun v s4 f4 hv4=>?_
 subst hv4
 simp -implicitDefEqProofs (disch:=first|decide|omega) [hsh]
 refine Rg.dcM (fun v s'=>∃ id c,v=.tup [(false,[.slice id 0 n c 21]),(false,[is 0])]∧s4.next≤id∧Tb s' id n 21 (fun i=>mstC (runM P (startM l) i))) (fun v h nx a b hh=>by
  obtain ⟨id,c,h1,h2,h3⟩:=hh
  exact ⟨id,c,h1,h2,h3.lo⟩) f4.wf (by decide) (by decide) ((sts_ok (wf_setLow (h:=f4.wf)) (by cases s4;exact holdsAll_fr (f3.trans f4) hh) ((hp.fr (f3.trans f4)).low) hok hv hGs (by omega)).imp fun v s h=>by
   obtain ⟨h1,id,c,h2,h3,h4⟩:=h
   exact ⟨h1,id,c,h2,by cases s4;exact h3,h4⟩) fun v s5 f5 hv5=>?_
 obtain ⟨sid,c,rfl,hsid,T9⟩:=hv5
 simp -implicitDefEqProofs (disch:=first|decide|omega)
 refine Rg.ret (hP _ _ ?_)
 clear hP P'
 have b6:=(b2.fr f4).fr f5
 replace f5:=(f3.trans f4).trans f5
 have hsl:st.next+1<sid:=by have:=b2.lt;have:=f4.next;omega
 clear f4 b1 b2 f3 hlt1
 have hGl:=runM_ok hv hok hGs (n - 1)
 obtain ⟨gl,egl⟩:∃ gl,gl=runM P (startM l) (n - 1):=⟨_,rfl⟩
 have hcp2:∀ v s,(if (fetchV P gl.pc).o≠0 then errP st 8 v s else TrcV st (fullV P (startM l) n) (l ++ gl.r) n v s)→ColP st P l k v s:=fun v s hx=>hcp v s (by unfold lastM;rw [← egl];exact hx)
 clear hcp
 rw [← egl] at hGl
 have en1:((n:Nat):Int) - 1=((n - 1:Nat):Int):=by omega
 have rl:=T9.N (i:=n - 1) (by omega)
 have il:=fun K=>T9.ix (i:=n - 1) (by omega) c K
 rw [← egl] at rl
 have hst:∀ K:St→R,Ev.sto (new s5 z21) 21 (.sc (.ptr s5.next 0)) (.agg (mstC gl)) K=K (wr (new s5 z21) s5.next 0 (mstC gl)):=fun K=>(Bx.new (s:=s5) (l:=z21)).stoN (l':=mstC gl) (n:=21) hGl.ok.len rfl K
 refine Ru.rs fun P' hP=>?_
 simp -implicitDefEqProofs (disch:=first|decide|omega) [en1,rl,il,hst]
 refine Rg.ret (hP _ _ ?_)
 clear hP P'
 have f6:=fr_mk f5.wf z21 (mstC gl)
 have b11:Bx (wr (new s5 z21) s5.next 0 (mstC gl)) s5.next (mstC gl):=Bx.mk' (hGl.ok.len.trans rfl)
 generalize wr (new s5 z21) s5.next 0 (mstC gl)=s6 at *
 clear hst rl il
 have hl11:sid<s5.next:=T9.lt
 replace T9:=T9.fr f6
 replace b6:=b6.fr f6
 replace f6:=f5.trans f6
 generalize s5.next=i11 at *
 clear f5
 refine Ru.seq (Ru.rs fun P' hP=>?_)
 simp -implicitDefEqProofs (disch:=first|decide|omega) [b11.N (n:=21) hGl.ok.len]
 refine Rg.call (halted_ok f6.wf (holdsAll_fr f6 hh) (hp.fr f6) hok gl hGl.ok) fun v s7 hv7=>?_
 obtain ⟨f7,rfl⟩:=hv7
 simp -implicitDefEqProofs (disch:=first|decide|omega)
 refine Rg.ret (hP _ _ ?_)
 clear hP P'
 replace b6:=b6.fr f7
 replace T9:=T9.fr f7
 replace b11:=b11.fr f7
 replace f7:=f6.trans f7
 clear f6
 have hhalt:haltV P gl=decide ((fetchV P gl.pc).o=0):=by
  unfold haltV
  rw [Bool.eq_iff_iff,decide_eq_true_iff,decide_eq_true_iff,fetchV_halt hv]
  have:=hGl.lo;have:=hGl.hi
  exact ⟨fun h=>h.2,fun h=>⟨⟨by omega,by omega,hv⟩,h⟩⟩
 refine Ru.cond rfl (fun h=>?_) fun h=>Ru.skip ?_
 ·have hno:(fetchV P gl.pc).o≠0:=by rw [hhalt] at h;simpa using h
  refine Ru.rs fun P' hP=>?_
  simp -implicitDefEqProofs (disch:=first|decide|omega) [build_eq,fill_nil,b6.stoN (l':=[.nils,.nils]) (n:=2) rfl rfl]
  refine Rg.ret (hP _ _ ?_)
  clear hP P'
  exact err _ _ 8 _ rfl f7 b6 rfl rfl fun v s hv=>hcp2 v s (by rw [if_pos hno];exact hv)
 have hno:(fetchV P gl.pc).o=0:=by rw [hhalt] at h;simpa using h
 simp only [Then]
 replace hcp2:∀ v s,TrcV st (fullV P (startM l) n) (l ++ gl.r) n v s→ColP st P l k v s:=fun v s hx=>hcp2 v s (by rw [if_neg (fun hne=>hne hno)];exact hx)
 clear err hhalt h hno
 refine Ru.rs fun P' hP=>?_
 simp -implicitDefEqProofs (disch:=first|decide|omega) [xM_eq' (st:=s7) 50 400 n n [us 0,us 0,us 0,us 0,us 0,us 0,us 0,us 0,us 0,us 0,us 0,us 0,us 0,us 0,us 0,us 0,us 0,us 0,us 0,us 0,us 0,us 0,us 0,us 0,us 0,us 0,us 0,us 0,us 0,us 0,us 0,us 0,us 0,us 0,us 0,us 0,us 0,us 0,us 0,us 0,us 0,us 0,us 0,us 0,us 0,us 0,us 0,us 0,us 0,us 0]  ]
 refine Rg.ret (hP _ _ ?_)
 clear hP P'
 have f8:=fr_mkz (n:=n) f7 (A50 fun _=>0) 50
 have T12:=Tb.mkz (s:=s7) (n:=n) (A50 fun _=>0) (z:=50) (A50_len _)
 have hl12:i11<s7.next:=b11.lt
 have fk:=fr_mkz (n:=n) (Fr.refl f7.wf) (A50 fun _=>0) 50
 replace b6:=b6.fr fk
 replace T9:=T9.fr fk
 replace b11:=b11.fr fk
 show Ru _ _ _ (mkz s7 n 50 (A50 fun _=>0)) _
 generalize mkz s7 n 50 (A50 fun _=>0)=s8 at *
 generalize s7.next=rid at *
 clear f7 fk
 refine Ru.seq (Ru.rs fun P' hP=>?_)
 simp -implicitDefEqProofs (disch:=first|decide|omega)
 refine Rg.ret (hP _ _ ?_)
 clear hP P'
 refine Ru.at (fun ρ=>CoI st y gl n sid i11 rid c (fun i=>mstC (runM P (startM l) i)) (fun _=>A50 fun _=>0) ρ s8∧ρ q55=.sc (.slice sid 0 n c 21)∧ρ q56=iv n∧ρ q57=iv (0:Nat)) ⟨⟨f8,rfl,rfl,rfl,rfl,rfl,hsl,hl11,hl12,b6,b11,T9,T12⟩,rfl,rfl,rfl⟩ fun ρ1 hE=>?_
 clear f8 b6 b11 T9 T12 hsl hl11 hl12
 obtain ⟨I,e55,e56,e57⟩:=hE
 refine Ru.block (Ru.lp [q0,q6,q9,q11,q12,q55,q56] (fun j:Nat=>n - j) (fun i ρ s=>CoI st y gl n sid i11 rid c (fun i=>mstC (runM P (startM l) i)) (fun j=>if j<i then (lineV (fetchV P (runM P (startM l) j).pc) (runM P (startM l) j)).map us else A50 fun _=>0) ρ s∧i≤n∧ρ q57=iv i)
  ⟨0,I.congr fun j hj=>by rw [if_neg (by omega)],by omega,e57⟩ fun i ρ s hk hI=>?_)
 clear e57 I s8
 obtain ⟨I,hi,e57⟩:=hI
 refine Ru.rs fun P' hP=>?_
 simp -implicitDefEqProofs (disch:=first|decide|omega) [hk.e,e56,e57]
 refine Rg.ret (hP _ _ ?_)
 clear hP P'
 refine Ru.seq (Ru.cond rfl (fun h=>Ru.skip ?_) fun h=>Ru.exit ?_)
 ·simp at h
  simp only [Then,Out]
  have hR:=runM_ok hv hok hGs i
  have hst:∀ K:St→R,Ev.sto (new s z21) 21 (.sc (.ptr s.next 0)) (.agg (mstC (runM P (startM l) i))) K=K (wr (new s z21) s.next 0 (mstC (runM P (startM l) i))):=fun K=>(Bx.new (s:=s) (l:=z21)).stoN (l':=mstC (runM P (startM l) i)) (n:=21) hR.ok.len rfl K
  refine Ru.seq (Ru.block (Ru.rs fun P' hP=>?_))
  simp -implicitDefEqProofs (disch:=first|decide|omega) [hk.e,e55,e57,I.T9.ix h,I.T9.N h,hst]
  refine Rg.ret (hP _ _ ?_)
  clear hP P'
  have fm:=fr_mk I.fr.wf z21 (mstC (runM P (startM l) i))
  have bm:Bx (wr (new s z21) s.next 0 (mstC (runM P (startM l) i))) s.next (mstC (runM P (startM l) i)):=Bx.mk' (hR.ok.len.trans rfl)
  replace I:=I.mv fm
  generalize wr (new s z21) s.next 0 (mstC (runM P (startM l) i))=sm at *
  refine Ru.r1 fun P' hP=>?_
  simp -implicitDefEqProofs (disch:=first|decide|omega) [I.e0,bm.N (n:=21) hR.ok.len]
  refine Rg.call (line_ok I.fr.wf (holdsAll_fr I.fr hh) (hp.fr I.fr) hok hv hR) fun v s9 hv9=>?_
  obtain ⟨f9,rfl⟩:=hv9
  replace I:=I.mv f9
  have hll:((lineV (fetchV P (runM P (startM l) i).pc) (runM P (startM l) i)).map us).length=50:=by simp [lineV_len]
  simp -implicitDefEqProofs (disch:=first|decide|omega) [I.e12,I.T12.ix h,I.T12.stoN h hll]
  refine Rg.ret (hP _ _ ?_)
  clear hP P'
  refine Ru.r1 fun P' hP=>?_
  simp -implicitDefEqProofs (disch:=first|decide|omega) [e57]
  refine Rg.ret (hP _ _ ?_)
  clear hP P'
  refine ⟨by repeat first | exact hk | refine Keep.up (by rfl) ?_,i+1,by omega,((I.kp hw (I.T12.kpw I.fr.wf _ _) (I.T12.setN h hll)).congr fun j hj=>?_).env rfl rfl rfl rfl rfl,by omega,rfl⟩
  by_cases h1:j=i
  ·subst h1;rw [if_pos rfl,if_pos (by omega)]
  ·rw [if_neg h1]
   by_cases h2:j<i
   ·rw [if_pos h2,if_pos (by omega)]
   ·rw [if_neg h2,if_neg (by omega)]
 simp at h
 have hin:n=i:=by omega
 subst hin
 simp only [Then,Out,if_true]
 have hRl:=rowsR_len P (startM l) n
 have hRw:=rowsR_wide P (startM l) n
 have I2:=I.congr (F12':=rowsF (rowsR P (startM l) n)) fun j hj=>by
  rw [if_pos hj]
  unfold rowsF rowsR
  rw [map_range_getD hj]
 have h32:∀ i,i<(rowsR P (startM l) n).length→get2 (rowsR P (startM l) n) i 32<16:=fun i hi=>(rowsR_look hv hok hGs (by rw [hRl] at hi;exact hi)).2.2.2.2.2.1
 refine Ru.rs fun P' hP=>?_
 simp -implicitDefEqProofs (disch:=first|decide|omega) [I2.e12]
 refine Rg.call (sorted_ok I2.fr.wf hRw hRl (by omega) (by omega) h32 I2.T12) fun v s10 hv10=>?_
 obtain ⟨k10,T10⟩:=hv10
 refine Rg.ret (hP _ _ ?_)
 clear hP P'
 replace I:=I2.kp hw k10 T10
 clear I2 k10 T10 hk e55 e56 e57 h hi
 obtain ⟨Rt,eR⟩:∃ Rt,Rt=fullR P (startM l) n:=⟨_,rfl⟩
 replace I:=I.congr (F12':=rowsF (cntI Rt 0)) fun j hj=>by rw [eR];rfl
 have hcl:Rt.length=n:=by rw [eR];unfold fullR;rw [progR_len,hRl]
 have hcw:Wide Rt:=by rw [eR];exact progR_wide hRw _
 have hb:∀ i,i<Rt.length→∀ c∈lookV,get2 Rt i c<Rt.length:=by rw [eR];exact fullR_look hv hok hGs hn16 (by omega) hpn
 have hcnt:=fun k (hk:k≤Rt.length)=>Cnt.stepI hcw hb k hk
 have hfv:fullV P (startM l) n=cntI Rt n:=by unfold fullV;rw [← eR]
 rw [hfv] at hcp2
 clear hRl hRw h32 hfv eR
 refine Ru.seq (Ru.rs fun P' hP=>?_)
 simp -implicitDefEqProofs (disch:=first|decide|omega) [I.e12]
 refine Rg.ret (hP _ _ ?_)
 clear hP P'
 refine Ru.at (fun ρ=>CoI st y gl n sid i11 rid c (fun i=>mstC (runM P (startM l) i)) (rowsF (cntI Rt 0)) ρ s10∧ρ q72=iv n∧ρ q73=iv (0:Nat)) ⟨I.env rfl rfl rfl rfl rfl,rfl,rfl⟩ fun ρ2 hE=>?_
 clear I
 obtain ⟨I,e72,e73⟩:=hE
 refine Ru.block (Ru.lp [] (fun j:Nat=>n - j) (fun i ρ s=>CoI st y gl n sid i11 rid c (fun i=>mstC (runM P (startM l) i)) (rowsF (cntI Rt i)) ρ s∧i≤n∧ρ q73=iv i∧ρ q72=iv n)
  ⟨0,I,by omega,e73,e72⟩ fun i ρ s hk hI=>?_)
 clear e73 I s10 e72
 obtain ⟨I,hi,e73,e72⟩:=hI
 refine Ru.rs fun P' hP=>?_
 simp -implicitDefEqProofs (disch:=first|decide|omega) [e72,e73]
 refine Rg.ret (hP _ _ ?_)
 clear hP P'
 refine Ru.seq (Ru.cond rfl (fun h=>Ru.skip ?_) fun h=>Ru.exit ?_)
 ·simp at h
  simp only [Then,Out]
  have hC:=hcnt i (by omega)
  refine Ru.seq (Ru.block (Ru.rs fun P' hP=>?_))
  simp -implicitDefEqProofs (disch:=first|decide|omega) [e73]
  refine Rg.ret (hP _ _ ?_)
  clear hP P'
  refine Ru.rs fun P' hP=>?_
  refine Rg.call (looked_ok I.fr.wf) fun v s11 hv11=>?_
  obtain ⟨f11,rfl⟩:=hv11
  simp -implicitDefEqProofs (disch:=first|decide|omega)
  refine Rg.ret (hP _ _ ?_)
  clear hP P'
  replace I:=I.mv f11
  refine Ru.at (fun ρ'=>CoI st y gl n sid i11 rid c (fun i=>mstC (runM P (startM l) i)) (rowsF (cntJ (cntI Rt i) i 0)) ρ' s11∧ρ' q72=iv n∧ρ' q73=iv i∧ρ' q15=iv i∧ρ' q76=.agg (lookV.map isN)∧ρ' q77=iv (0:Nat)) ⟨I.env rfl rfl rfl rfl rfl,e72,e73,rfl,rfl,rfl⟩ fun ρ4 hE=>?_
  clear I e72 e73
  obtain ⟨I,e72,e73,e15,e76,e77⟩:=hE
  refine Ru.block (Ru.lp [] (fun j:Nat=>8 - j) (fun j ρ s=>CoI st y gl n sid i11 rid c (fun i=>mstC (runM P (startM l) i)) (rowsF (cntJ (cntI Rt i) i j)) ρ s∧j≤8∧ρ q77=iv j∧ρ q72=iv n∧ρ q73=iv i∧ρ q15=iv i∧ρ q76=.agg (lookV.map isN))
   ⟨0,I,by omega,e77,e72,e73,e15,e76⟩ fun j ρ' s' hk2 hI=>?_)
  clear e72 e73 e15 e76 e77 I hk2
  obtain ⟨I,hj,e77,e72,e73,e15,e76⟩:=hI
  refine Ru.rs fun P' hP=>?_
  simp -implicitDefEqProofs (disch:=first|decide|omega) [e77]
  refine Rg.ret (hP _ _ ?_)
  clear hP P'
  refine Ru.seq (Ru.cond rfl (fun h2=>Ru.skip ?_) fun h2=>Ru.exit ?_)
  ·simp at h2
   simp only [Then,Out]
   have hj8:j<8:=by omega
   have hD:=hC.stepJ hb (show i<Rt.length by omega) j (by omega)
   have hlj:(lookV.map isN)[j]?=some (isN (lookV.getD j 0)):=by
    rw [List.getElem?_map,List.getD_eq_getElem?_getD,List.getElem?_eq_getElem (show j<lookV.length from hj8)];rfl
   have hmem:lookV.getD j 0∈lookV:=by
    rw [List.getD_eq_getElem?_getD,List.getElem?_eq_getElem (show j<lookV.length from hj8)];exact List.getElem_mem _
   have hc42:lookV.getD j 0<42:=(by decide:∀ c∈lookV,c<42) _ hmem
   have hs1:cntS (cntJ (cntI Rt i) i j) i j=cntJ (cntI Rt i) i (j+1):=(cntJ_s _ _ _).symm
   unfold cntS at hs1
   have hval:get2 (cntJ (cntI Rt i) i j) i (lookV.getD j 0)<n:=by
    rw [hD.low i _ hc42,← hcl];exact hb i (by omega) _ hmem
   generalize lookV.getD j 0=cc at *
   have hl1:(cntJ (cntI Rt i) i j).length=n:=by rw [hD.len,hcl]
   generalize cntJ (cntI Rt i) i j=R1 at *
   have rv:=I.T12.rows hD.wide hl1 h (j:=cc) (by omega)
   generalize get2 R1 i cc=val at *
   have rw2:=I.T12.rows hD.wide hl1 hval (j:=42+j) (by omega)
   have e42:((42:Int)+j).toNat=42+j:=by omega
   have hmv:=mul_le_of_lt hval 50
   obtain ⟨m,ho,hm⟩:=I.T12.own
   refine Ru.seq (Ru.block (Ru.rs fun P' hP=>?_))
   simp -implicitDefEqProofs (disch:=first|decide|omega) [e76,e77,idxV_sc (len:=8) _ _ _ hj8 hlj]
   refine Rg.ret (hP _ _ ?_)
   clear hP P'
   refine Ru.d1 fun P' hP=>?_
   simp -implicitDefEqProofs (disch:=first|decide|omega | (apply okS_t;decide;(simp (decide:=true) <;> omega))) [I.e12,e15,I.T12.ix h,I.T12.ixu hval,rv,rw2,e42,uaddw,dS_ok (off:=val * 50+(42+j)) ho (by omega)]
   refine Rg.ret (hP _ _ ?_)
   clear hP P'
   refine Ru.r1 fun P' hP=>?_
   simp -implicitDefEqProofs (disch:=first|decide|omega) [e77]
   refine Rg.ret (hP _ _ ?_)
   clear hP P'
   have k1:=I.T12.kpw I.fr.wf (val * 50+(42+j)) [us ((get2 R1 val (42+j)+1) % 18446744073709551616)]
   have T1:=I.T12.setR hl1 hval (j:=42+j) (by omega) ((get2 R1 val (42+j)+1) % 18446744073709551616)
   rw [hs1] at T1
   exact ⟨(fun q hq=>by cases hq),j+1,by omega,(I.kp hw k1 T1).env rfl rfl rfl rfl rfl,by omega,rfl,e72,e73,e15,e76⟩
  simp at h2
  have hj8:j=8:=by omega
  subst hj8
  simp only [Then,Out,if_true]
  rw [← cntI_s] at I
  refine Ru.r1 fun P' hP=>?_
  simp -implicitDefEqProofs (disch:=first|decide|omega) [e73]
  refine Rg.ret (hP _ _ ?_)
  clear hP P'
  exact ⟨(fun q hq=>by cases hq),i+1,by omega,I.env rfl rfl rfl rfl rfl,by omega,rfl,e72⟩
 simp at h
 have hin:n=i:=by omega
 subst hin
 simp only [Then,Out,if_true]
 have hC:=hcnt n (by omega)
 obtain ⟨RR,eRR⟩:∃ RR,RR=cntI Rt n:=⟨_,rfl⟩
 rw [← eRR] at I hcp2 hC
 have hl1:RR.length=n:=by rw [hC.len,hcl]
 have hw1:=hC.wide
 have hpub:∀ j,j<4→True:=fun _ _=>trivial
 clear hk e72 e73 h hi hcnt hb
 have hfill:∀ tm (K:List S→R),fillK tm K [(1,1,.c (.sc (.slice s.next 0 50 (some 50) 1)))] [zn,zn]=K [zn,.slice s.next 0 50 (some 50) 1]:=fun tm K=>by
  rw [fill_sc tm K _ 1 _ _ (by decide),fill_nil];rfl
 have hst2:∀ K:St→R,Ev.sto (new (mkz s 50 1 [.nils]) [zn,zn]) 2 (.sc (.ptr (s.next+1) 0)) (.agg [zn,.slice s.next 0 50 (some 50) 1]) K=K (wr (new (mkz s 50 1 [.nils]) [zn,zn]) (s.next+1) 0 [zn,.slice s.next 0 50 (some 50) 1]):=fun K=>(Bx.new (s:=mkz s 50 1 [.nils]) (l:=[zn,zn])).stoN (l':=[zn,.slice s.next 0 50 (some 50) 1]) (n:=2) rfl rfl K
 refine Ru.rs fun P' hP=>?_
 simp -implicitDefEqProofs (disch:=first|decide|omega) [xM_eq' (st:=s) 1 24 50 50 [.nils],build_eq,hfill,hst2]
 refine Rg.ret (hP _ _ ?_)
 clear hP P'
 have fk:=fr_mkz (n:=50) (Fr.refl I.fr.wf) [.nils] 1
 have bM:=Bx.mkz1 (s:=s) .nils 50
 have fk2:=fr_mk fk.wf [.nils,.nils] [.nils,.slice s.next 0 50 (some 50) 1]
 have bT:Bx (wr (new (mkz s 50 1 [.nils]) [.nils,.nils]) (s.next+1) 0 [.nils,.slice s.next 0 50 (some 50) 1]) (s.next+1) [.nils,.slice s.next 0 50 (some 50) 1]:=Bx.mk' rfl
 have bM:=bM.fr fk2
 have hrs:=I.T12.lt
 replace I:CoI st y gl n sid i11 rid c (fun i=>mstC (runM P (startM l) i)) (rowsF RR) ρ (wr (new (mkz s 50 1 [.nils]) [.nils,.nils]) (s.next+1) 0 [.nils,.slice s.next 0 50 (some 50) 1]):=(I.mv fk).mv fk2
 show Ru _ _ _ (wr (new (mkz s 50 1 [.nils]) [.nils,.nils]) (s.next+1) 0 [.nils,.slice s.next 0 50 (some 50) 1]) _
 have FL:FlI n rid (s.next+1) s.next (some n) RR 0 _ _:=⟨by simp,hrs,by omega,bT,bM,I.T12,fun k hk=>by omega,fun k _ hk=>by rw [List.getElem?_replicate,if_pos hk]⟩
 generalize wr (new (mkz s 50 1 [.nils]) [.nils,.nils]) (s.next+1) 0 [.nils,.slice s.next 0 50 (some 50) 1]=s12 at *
 generalize List.replicate 50 S.nils=ys at *
 clear bT bM fk fk2 hfill hst2
 have hst18:st.next≤s.next:=by have:=I.l9;have:=I.l11;have:=I.l12;omega
 generalize s.next=mid at *
 obtain ⟨tb,etb⟩:∃ tb,tb=mid+1:=⟨_,rfl⟩
 rw [← etb] at FL ⊢
 have hrm:=FL.lm
 refine Ru.seq (Ru.rs fun P' hP=>?_)
 simp -implicitDefEqProofs (disch:=first|decide|omega) [FL.bT.rd 1 _ rfl]
 refine Rg.ret (hP _ _ ?_)
 clear hP P'
 refine Ru.at (fun ρ=>CoI st y gl n sid i11 rid c (fun i=>mstC (runM P (startM l) i)) (rowsF RR) ρ s12∧ρ q102=iv (50:Nat)∧ρ q103=iv (0:Nat)∧ρ q18=.sc (.ptr tb 0)) ⟨I.env rfl rfl rfl rfl rfl,rfl,rfl,rfl⟩ fun ρ5 hE=>?_
 clear I
 obtain ⟨I,e102,e103,e18⟩:=hE
 refine Ru.block (Ru.lp [] (fun j:Nat=>50 - j) (fun j ρ s=>CoI st y gl n sid i11 rid c (fun i=>mstC (runM P (startM l) i)) (rowsF RR) ρ s∧(∃ ys,FlI n rid tb mid (some n) RR j s ys)∧j≤50∧ρ q103=iv j∧ρ q102=iv (50:Nat)∧ρ q18=.sc (.ptr tb 0))
  ⟨0,I,⟨_,FL⟩,by omega,e103,e102,e18⟩ fun j ρ s0 hk hI=>?_)
 clear e102 e103 e18 I FL hk
 obtain ⟨I,⟨ys,FL⟩,hj,e103,e102,e18⟩:=hI
 refine Ru.rs fun P' hP=>?_
 simp -implicitDefEqProofs (disch:=first|decide|omega) [e102,e103]
 refine Rg.ret (hP _ _ ?_)
 clear hP P'
 refine Ru.seq (Ru.cond rfl (fun h=>Ru.skip ?_) fun h=>Ru.exit ?_)
 ·simp at h
  replace h:j<50:=by omega
  simp only [Then,Out]
  refine Ru.seq (Ru.block (Ru.rs fun P' hP=>?_))
  simp -implicitDefEqProofs (disch:=first|decide|omega) [e103]
  refine Rg.ret (hP _ _ ?_)
  clear hP P'
  refine Ru.rs fun P' hP=>?_
  simp -implicitDefEqProofs (disch:=first|decide|omega) [I.e12]
  refine Rg.ret (hP _ _ ?_)
  clear hP P'
  have hs0r:rid<s0.next:=I.T12.lt
  refine Ru.at (fun ρ'=>CoI st y gl n sid i11 rid c (fun i=>mstC (runM P (startM l) i)) (rowsF RR) ρ' s0∧ρ' q102=iv (50:Nat)∧ρ' q103=iv j∧ρ' q18=.sc (.ptr tb 0)∧ρ' q19=iv j∧ρ' q107=iv n∧ρ' q108=iv (0:Nat)) ⟨I.env rfl rfl rfl rfl rfl,e102,e103,e18,rfl,rfl,rfl⟩ fun ρ6 hE=>?_
  clear I e102 e103 e18
  obtain ⟨I,e102,e103,e18,e19,e107,e108⟩:=hE
  refine Ru.block (Ru.lp [] (fun i:Nat=>n - i) (fun i ρ s=>CoI st y gl n sid i11 rid c (fun i=>mstC (runM P (startM l) i)) (rowsF RR) ρ s∧(∃ y',FlR n rid tb mid (some n) RR j i s0 s ys y')∧i≤n∧ρ q108=iv i∧ρ q107=iv n∧ρ q19=iv j∧ρ q18=.sc (.ptr tb 0)∧ρ q103=iv j∧ρ q102=iv (50:Nat))
   ⟨0,I,⟨_,FL.start h⟩,by omega,e108,e107,e19,e18,e103,e102⟩ fun i ρ' s1 hk hI=>?_)
  clear I e102 e103 e18 e19 e107 e108 hk
  obtain ⟨I,⟨y',FR⟩,hi,e108,e107,e19,e18,e103,e102⟩:=hI
  refine Ru.rs fun P' hP=>?_
  simp -implicitDefEqProofs (disch:=first|decide|omega) [e107,e108]
  refine Rg.ret (hP _ _ ?_)
  clear hP P'
  refine Ru.seq (Ru.cond rfl (fun h2=>Ru.skip ?_) fun h2=>Ru.exit ?_)
  ·simp at h2
   simp only [Then,Out]
   refine Ru.seq (Ru.block (Ru.rs fun P' hP=>?_))
   simp -implicitDefEqProofs (disch:=first|decide|omega) [e108]
   refine Rg.ret (hP _ _ ?_)
   clear hP P'
   refine Ru.d1 fun P' hP=>?_
   refine FL.reg FR I.fr hw (by omega) h hw1 hl1 h2 (by omega) (qt:=q18) (qr:=q12) (qj:=q19) (qi:=q20) e18 I.e12 e19 rfl fun y2 s2 f2 k2 FR2=>?_
   refine hP _ _ ?_
   clear hP P'
   refine Ru.r1 fun P' hP=>?_
   simp -implicitDefEqProofs (disch:=first|decide|omega) [e108]
   refine Rg.ret (hP _ _ ?_)
   clear hP P'
   exact ⟨(fun q hq=>by cases hq),i+1,by omega,(I.old f2 k2 hs0r hrm).env rfl rfl rfl rfl rfl,⟨_,FR2⟩,by omega,rfl,e107,e19,e18,e103,e102⟩
  simp at h2
  have hin:n=i:=by omega
  subst hin
  simp only [Then,Out,if_true]
  refine Ru.r1 fun P' hP=>?_
  simp -implicitDefEqProofs (disch:=first|decide|omega) [e103]
  refine Rg.ret (hP _ _ ?_)
  clear hP P'
  exact ⟨(fun q hq=>by cases hq),j+1,by omega,I.env rfl rfl rfl rfl rfl,⟨_,FL.step h I.fr.wf FR.old FR.bM FR.sat FR.grw⟩,by omega,rfl,e102,e18⟩
 simp at h
 have hj50:j=50:=by omega
 subst hj50
 simp only [Then,Out,if_true]
 have hg0:=hGs.ok
 have hT90:Tb s0 sid n 21 (fun i=>mstC (runM P (startM l) i)):=I.T9
 have ix0:∀ K:V→R,ixs 21 (.sc (.slice sid 0 n c 21)) (iv 0) K=K (.sc (.ptr sid 0)):=fun K=>by
  have:=hT90.ix (i:=0) (by omega) c K
  simpa using this
 have rd0:rdN s0 sid 0 21=some (mstC (startM l)):=by
  have:=hT90.N (i:=0) (by omega)
  rwa [Nat.zero_mul] at this
 have hl42:(mstC (startM l)).length=21:=hg0.len
 have hfill:∀ tm (K:List S→R),fillK tm K [(0,21,.c (.agg (mstC (startM l)))),(21,21,.c (.agg (mstC gl)))] [is 0,bs 0,bs 0,bs 0,bs 0,bs 0,bs 0,bs 0,bs 0,bs 0,bs 0,bs 0,bs 0,bs 0,bs 0,bs 0,bs 0,bs 0,bs 0,bs 0,bs 0,is 0,bs 0,bs 0,bs 0,bs 0,bs 0,bs 0,bs 0,bs 0,bs 0,bs 0,bs 0,bs 0,bs 0,bs 0,bs 0,bs 0,bs 0,bs 0,bs 0,bs 0]=K (mstC (startM l) ++ mstC gl):=fun tm K=>by
  rw [fill_agg tm K _ 0 _ 21 _ hl42 (by simp),fill_agg tm K _ 21 _ 21 _ hGl.ok.len (by rw [setRange_length];simp),fill_nil]
  have:=setRange_app [is 0,bs 0,bs 0,bs 0,bs 0,bs 0,bs 0,bs 0,bs 0,bs 0,bs 0,bs 0,bs 0,bs 0,bs 0,bs 0,bs 0,bs 0,bs 0,bs 0,bs 0,is 0,bs 0,bs 0,bs 0,bs 0,bs 0,bs 0,bs 0,bs 0,bs 0,bs 0,bs 0,bs 0,bs 0,bs 0,bs 0,bs 0,bs 0,bs 0,bs 0,bs 0] (mstC (startM l)) (mstC gl) (by rw [hl42,hGl.ok.len];rfl)
  rw [hl42] at this
  rw [this]
 have hm1:st.next+1<mid:=by have:=I.l9;have:=I.l11;have:=I.l12;omega
 have PU:=PuI.start (l ++ gl.r) FL I.fr hm1 I.b6
 have hpl:(l ++ gl.r).length=8:=by rw [List.length_append,hl,hGl.ok.1]
 generalize s0.next=p0 at PU
 refine Ru.seq (Ru.ds fun P' hP=>?_)
 simp -implicitDefEqProofs (disch:=first|decide|omega) [I.e9,I.e11,ix0,rd0,I.b11.N (n:=21) hGl.ok.len,build_eq,hfill]
 refine Rg.ret (hP _ _ ?_)
 clear hP P'
 refine Ru.at (fun ρ=>ρ q6=.sc (.ptr (st.next+1) 0)∧ρ q18=.sc (.ptr tb 0)∧ρ q134=.agg (mstC (startM l) ++ mstC gl)∧ρ q135=iv (0:Nat)) ⟨I.e6,e18,rfl,rfl⟩ fun ρ7 hE=>?_
 clear I e18 e102 e103 FL hT90 ix0 rd0 hfill h hj
 obtain ⟨e6,e18,e134,e135⟩:=hE
 refine Ru.block (Ru.lp [q6,q18,q134] (fun a:Nat=>2 - a) (fun a ρ s=>(∃ yp,PuI st n tb mid p0 RR (l ++ gl.r) ys (4 * a) s yp)∧a≤2∧ρ q135=iv a)
  ⟨0,⟨_,PU⟩,by omega,e135⟩ fun a ρ s hk hI=>?_)
 clear e135 PU s0
 obtain ⟨⟨yp,PU⟩,ha,e135⟩:=hI
 refine Ru.rs fun P' hP=>?_
 simp -implicitDefEqProofs (disch:=first|decide|omega) [e135]
 refine Rg.ret (hP _ _ ?_)
 clear hP P'
 refine Ru.seq (Ru.cond rfl (fun h=>Ru.skip ?_) fun h=>Ru.exit ?_)
 rotate_left
 ·simp at h
  have ha2:a=2:=by omega
  subst ha2
  simp only [Then,Out,if_true]
  exact PU.fin hw hpl ((hk.e q6 rfl).trans e6) ((hk.e q18 rfl).trans e18) fun ρ s hr=>hQ _ _ (by
   obtain ⟨v,hv1,hv2⟩:=hr
   exact ⟨v,hcp2 v s hv1,hv2⟩)
 simp at h
 replace h:a<2:=by omega
 simp only [Then,Out]
 obtain ⟨ga,ega⟩:∃ ga,ga=(if a=0 then startM l else gl):=⟨_,rfl⟩
 have hga:OkM ga:=by rw [ega];split;· exact hg0
                     ·exact hGl.ok
 have hseg:((mstC (startM l) ++ mstC gl).drop (a * 21)).take 21=mstC ga:=by
  rw [ega]
  rcases (show a=0∨a=1 by omega) with rfl | rfl
  ·rw [if_pos rfl,Nat.zero_mul,List.drop_zero,List.take_append_of_le_length (by rw [hl42];exact Nat.le_refl _),List.take_of_length_le (by rw [hl42];exact Nat.le_refl _)]
  ·rw [if_neg (by decide),Nat.one_mul,List.drop_append_of_le_length (by rw [hl42];exact Nat.le_refl _),List.drop_of_length_le (by rw [hl42];exact Nat.le_refl _),List.nil_append,List.take_of_length_le (by rw [hGl.ok.len];exact Nat.le_refl _)]
 have hpb:∀ b,b<4→(l ++ gl.r)[4 * a+b]?=some (ga.r.getD b 0):=fun b hb=>by
  rw [ega]
  rcases (show a=0∨a=1 by omega) with rfl | rfl
  ·rw [if_pos rfl,List.getElem?_append_left (by omega),List.getD_eq_getElem?_getD,show 4 * 0+b=b by omega]
   show l[b]?=some (l[b]?.getD 0)
   rw [List.getElem?_eq_getElem (by omega)];rfl
  ·rw [if_neg (by decide),List.getElem?_append_right (by omega),List.getD_eq_getElem?_getD,show 4 * 1+b - l.length=b by omega,List.getElem?_eq_getElem (by rw [hGl.ok.1];exact hb)];rfl
 have hidx:=fun (c:CallK) (r:Ev) (K:V→St→R)=>idxV_agg (st:=s) (len:=2) (z:=21) c r K h (by rw [List.length_append,hl42,hGl.ok.len];omega) hseg
 have hst:∀ K:St→R,Ev.sto (new s z21) 21 (.sc (.ptr s.next 0)) (.agg (mstC ga)) K=K (wr (new s z21) s.next 0 (mstC ga)):=fun K=>(Bx.new (s:=s) (l:=z21)).stoN (l':=mstC ga) (n:=21) hga.len rfl K
 clear ega hseg
 refine Ru.seq (Ru.block (Ru.rs fun P' hP=>?_))
 simp -implicitDefEqProofs (disch:=first|decide|omega) [hk.e,e134,e135,hidx,hst]
 refine Rg.ret (hP _ _ ?_)
 clear hP P'
 have fm:=fr_mk PU.fr.wf z21 (mstC ga)
 have bm:Bx (wr (new s z21) s.next 0 (mstC ga)) s.next (mstC ga):=Bx.mk' (hga.len.trans rfl)
 replace PU:=PU.mv fm
 generalize wr (new s z21) s.next 0 (mstC ga)=sm at *
 clear hidx hst fm
 refine Ru.rs fun P' hP=>?_
 simp -implicitDefEqProofs (disch:=first|decide|omega) [mst_regs hga bm]
 refine Rg.ret (hP _ _ ?_)
 clear hP P'
 refine Ru.at (fun ρ'=>Keep [q6,q18,q134] ρ' ρ7∧ρ' q139=.agg (ga.r.map bs)∧ρ' q140=iv (0:Nat)∧ρ' q135=iv a) ⟨by repeat first | exact hk | refine Keep.up (by rfl) ?_,rfl,rfl,e135⟩ fun ρ8 hE=>?_
 clear hk e135 bm
 obtain ⟨hk,e139,e140,e135⟩:=hE
 refine Ru.block (Ru.lp [q6,q18,q134,q139,q135] (fun b:Nat=>4 - b) (fun b ρ s=>(∃ yp,PuI st n tb mid p0 RR (l ++ gl.r) ys (4 * a+b) s yp)∧b≤4∧ρ q140=iv b)
  ⟨0,⟨_,PU⟩,by omega,e140⟩ fun b ρ' s' hk2 hI=>?_)
 clear e140 PU sm
 obtain ⟨⟨yp',PU⟩,hb,e140⟩:=hI
 refine Ru.rs fun P' hP=>?_
 simp -implicitDefEqProofs (disch:=first|decide|omega) [e140]
 refine Rg.ret (hP _ _ ?_)
 clear hP P'
 refine Ru.seq (Ru.cond rfl (fun h2=>Ru.skip ?_) fun h2=>Ru.exit ?_)
 rotate_left
 ·simp at h2
  have hb4:b=4:=by omega
  subst hb4
  simp only [Then,Out,if_true]
  refine Ru.r1 fun P' hP=>?_
  simp -implicitDefEqProofs (disch:=first|decide|omega) [hk2.e,e135]
  refine Rg.ret (hP _ _ ?_)
  clear hP P'
  exact ⟨Keep.up (by rfl) (Keep.up (by rfl) (Keep.via (by rfl) hk2 hk)),a+1,by omega,⟨_,by rw [show 4 * (a+1)=4 * a+4 by omega];exact PU⟩,by omega,rfl⟩
 simp at h2
 replace h2:b<4:=by omega
 simp only [Then,Out]
 have hx:=hpb b h2
 have hx8:=getD_lt hga.2.2.1 (by omega) b
 have hix:(ga.r.map bs)[b]?=some (bs (ga.r.getD b 0)):=by simp [List.getD_eq_getElem?_getD,hga.1,h2]
 generalize ga.r.getD b 0=x at *
 refine Ru.seq (Ru.block (Ru.rs fun P' hP=>?_))
 simp -implicitDefEqProofs (disch:=first|decide|omega) [hk2.e,e139,e140,idxV_sc (len:=4) _ _ _ h2 hix]
 refine Rg.ret (hP _ _ ?_)
 clear hP P'
 obtain ⟨y2,s2,hA,f2,hs2,hg2,k2,hy2,hnx⟩:=app_build (a:=st) (st:=s') (b:=8) (k:=1) (nc:=[us x]) PU.fr hw PU.sp (PU.gp.le (by have:=PU.l0;have:=PU.lt;have:=PU.l1;omega)) (by omega) rfl (by omega) (by omega)
 have hg2':Grw p0 s2 y2 (4 * a+b+1) 1:=by
  rcases hg2 with h0 | ⟨id,b',e1,e2,e3⟩
  ·exact .inl h0
  ·refine .inr ⟨id,b',e1, ?_,e3⟩
   rw [e1] at hy2
   have:id=s'.next+1:=by simpa [Ev.sid] using hy2
   have:=PU.ls
   omega
 have hf1:∀ tm (K:List S→R),fillK tm K [(0,1,.c (uv x))] [us 0]=K [us x]:=fun tm K=>by
  rw [fill_sc tm K _ 0 (us x) _ (by decide),fill_nil];rfl
 have PU2:=PU.push hw hx f2 hs2 hg2' k2
 have bT2:Bx s2 tb [yp',.slice mid 0 50 (some 50) 1]:=PU.bT.kp k2 fun he=>by have:=PU.gp.sid tb he;have:=PU.l0;omega
 have e18':ρ' q18=.sc (.ptr tb 0):=((hk2.e q18 rfl).trans (hk.e q18 rfl)).trans e18
 refine Ru.r1 fun P' hP=>?_
 simp -implicitDefEqProofs (disch:=first|decide|omega) [e18',PU.bT.rd 0 _ rfl,cnv_bu x _ hx8,buildS_eq,hf1,hA,bT2.sto (i:=0) (show 0<2 by decide)]
 refine Rg.ret (hP _ _ ?_)
 clear hP P'
 refine Ru.r1 fun P' hP=>?_
 simp -implicitDefEqProofs (disch:=first|decide|omega) [e140]
 refine Rg.ret (hP _ _ ?_)
 clear hP P'
 exact ⟨by repeat first | exact hk2 | refine Keep.up (by rfl) ?_,b+1,by omega,⟨_,PU2⟩,by omega,rfl⟩
end
section
variable {st s t u:St}{n i id off a mid:Nat}
structure RoI (st:St) (y:S) (n sid rid:Nat) (c:Option Nat) (F10 F12:Nat→List S) (ρ:Ev) (s:St):Prop where
 fr:Fr st s
 e0:ρ q0=.sc y
 e6:ρ q6=.sc (.ptr (st.next+1) 0)
 e9:ρ q9=iv n
 e10:ρ q10=.sc (.slice sid 0 n c 21)
 e12:ρ q12=.sc (.slice rid 0 n none 50)
 l10:st.next+1<sid
 l12:sid<rid
 b6:Bx s (st.next+1) [.nils,.nils]
 T10:Tb s sid n 21 F10
 T12:Tb s rid n 50 F12
section
variable {y:S}{sid rid:Nat}{c:Option Nat}{F9 F12 F12':Nat→List S}{ρ ρ':Ev}
theorem RoI.env (h:RoI st y n sid rid c F9 F12 ρ s) (h0:ρ' q0=ρ q0) (h6:ρ' q6=ρ q6) (h9:ρ' q9=ρ q9) (h10:ρ' q10=ρ q10) (h12:ρ' q12=ρ q12):RoI st y n sid rid c F9 F12 ρ' s :=
 ⟨h.fr,h0.trans h.e0,h6.trans h.e6,h9.trans h.e9,h10.trans h.e10,h12.trans h.e12,h.l10,h.l12,h.b6,h.T10,h.T12⟩
theorem RoI.mv (h:RoI st y n sid rid c F9 F12 ρ s) (k:Fr s t):RoI st y n sid rid c F9 F12 ρ t :=
 ⟨h.fr.trans k,h.e0,h.e6,h.e9,h.e10,h.e12,h.l10,h.l12,h.b6.fr k,h.T10.fr k,h.T12.fr k⟩
theorem RoI.kp (hw:WfS st) (h:RoI st y n sid rid c F9 F12 ρ s) (k:Kp (some rid) s t) (T:Tb t rid n 50 F12'):RoI st y n sid rid c F9 F12' ρ t:=by
 have:=h.l10;have:=h.l12
 exact ⟨k.fr h.fr (fun id h=>by cases h;omega) hw,h.e0,h.e6,h.e9,h.e10,h.e12,h.l10,h.l12,h.b6.kp k (ne_some (by omega)),h.T10.kp k (ne_some (by omega)),T⟩
theorem RoI.old {a mid:Nat} (h:RoI st y n sid rid c F9 F12 ρ s) (hf:Fr st t) (k:Old a mid s t) (ha:rid<a) (hm:rid<mid):RoI st y n sid rid c F9 F12 ρ t:=by
 have:=h.l10;have:=h.l12
 exact ⟨hf,h.e0,h.e6,h.e9,h.e10,h.e12,h.l10,h.l12,h.b6.old k (by omega) (by omega),h.T10.old k (by omega) (by omega),h.T12.old k (by omega) (by omega)⟩
theorem RoI.congr (h:RoI st y n sid rid c F9 F12 ρ s) (e:∀ i,i<n→F12 i=F12' i):RoI st y n sid rid c F9 F12' ρ s :=
 ⟨h.fr,h.e0,h.e6,h.e9,h.e10,h.e12,h.l10,h.l12,h.b6,h.T10,h.T12.congr e⟩
theorem RoI.rows {R0 R1:List Row} (hw:WfS st) (h:RoI st y n sid rid c F9 (rowsF R0) ρ s) (hn:R0.length=n) {i j:Nat} (hi:i<n) (hj:j<50) (x:Nat) (e:setC R0 i j x=R1):RoI st y n sid rid c F9 (rowsF R1) ρ (wr s rid (i * 50+j) [us x]) :=
 h.kp hw (h.T12.kpw h.fr.wf _ _) (e▸h.T12.setR hn hi hj x)
end
theorem refA_low {R0:List Row}{ord:List Nat}{i j c:Nat} (hj:j<R0.length) (hc:c<35):get2 (refA R0 ord i) j c=get2 R0 j c:=by
 unfold get2 refA
 rw [map_range_getD hj]
 split
 ·exact W1_low _ _ hc
 ·rfl
theorem refA_at {R0:List Row}{ord:List Nat} (h:i<R0.length):(refA R0 ord i).getD i []=R0.getD i []:=by
 unfold refA
 rw [map_range_getD h,if_neg (by omega)]
theorem refB_at {R0:List Row}{ord:List Nat}{j:Nat} (h:j<R0.length) (hj:i≤j):(refB R0 ord i).getD j []=W1 R0 ord j (R0.getD j []):=by
 unfold refB
 rw [map_range_getD h,if_neg (by omega)]
theorem rcols_ok (hw:WfS st) {y:S}{P:List InsD} (hp:RepP st y P) (hok:OkP P) {l:List Nat} (hl:l.length=4) (hl8:∀ x∈l,x<256) {r:Int} (hr:r≤7∨13<r) :
  Ca (cF F) 7 [.sc y,.agg (l.map bs),iv r] st (ColP st P l r):=by
 refine Ca.of (hf:=cf7) rfl rfl [q0,q1,q2] [.cellN n2 q6,.tmp q7] rfl rfl rfl fun Q hQ=>?_
 refine Ru.rs fun P' hP=>?_
 simp -implicitDefEqProofs (disch:=first|decide|omega)
 refine Rg.ret (hP _ _ ?_)
 clear hP P'
 have f1:Fr st (new st (l.map bs)):=(Fr.refl hw).new _
 have b1:Bx (new st (l.map bs)) st.next (l.map bs):=Bx.new
 have f2:Fr (new st (l.map bs)) (new (new st (l.map bs)) [.nils,.nils]):=(Fr.refl f1.wf).new _
 have b2:Bx (new (new st (l.map bs)) [.nils,.nils]) (st.next+1) [.nils,.nils]:=Bx.new
 replace b1:=b1.fr f2
 replace f2:=f1.trans f2
 show Ru _ _ _ (new (new st (l.map bs)) [.nils,.nils]) _
 generalize new (new st (l.map bs)) [.nils,.nils]=s2 at *
 clear f1
 have err:∀ (ρ:Ev) (s:St) (e:Nat) (Q':X→Ev→St→Prop),Q' .ret=Q .ret→Fr st s→Bx s (st.next+1) [.nils,.nils]→ρ q6=.sc (.ptr (st.next+1) 0)→ρ q7=iv e→(∀ v s,errP st e v s→ColP st P l r v s)→Ru (cF F) .ret ρ (wr s (st.next+1) 0 [.nils,.nils]) Q':=fun ρ s e Q' hq hf b e6 e7 hv=>by
  have kw:=b.kpw hf.wf (i:=0) [.nils,.nils]
  exact Ru.ret (hq▸hQ _ _ (resP.cellsTmp (n:=1) (id:=st.next+1) (off:=0) (l:=[.nils,.nils]) e6 ((b.setN (l':=[.nils,.nils]) rfl).N rfl) e7 (hv _ _ ⟨kw.fr hf (fun id h=>by cases h;omega) hw,rfl⟩)))
 refine Ru.rs fun P' hP=>?_
 refine Rg.call (rbounds_ok f2.wf (hp.fr f2) hok r) fun v s3 hv3=>?_
 obtain ⟨f3,rfl⟩:=hv3
 refine Rg.ret (hP _ _ ?_)
 clear hP P'
 replace b1:=b1.fr f3
 replace b2:=b2.fr f3
 replace f3:=f2.trans f3
 clear f2 s2
 refine Ru.seq (Ru.rs fun P' hP=>?_)
 simp -implicitDefEqProofs (disch:=first|decide|omega)
 refine Rg.ret (hP _ _ ?_)
 clear hP P'
 refine Ru.cond rfl (fun h=>?_) fun h=>Ru.skip ?_
 ·have hb0:boundsV P r≠0:=by simpa using h
  refine Ru.rs fun P' hP=>?_
  simp -implicitDefEqProofs (disch:=first|decide|omega) [build_eq,fill_nil,b2.stoN (l':=[.nils,.nils]) (n:=2) rfl rfl]
  refine Rg.ret (hP _ _ ?_)
  clear hP P'
  exact err _ _ (boundsV P r) _ rfl f3 b2 rfl rfl fun v s hv=>by unfold ColP;rw [if_pos hb0];exact hv
 have hb0:boundsV P r=0:=by simpa using h
 simp only [Then]
 obtain ⟨hv,hr4,hr13,hpn⟩:=bounds0 hb0
 obtain ⟨k,rfl⟩:=Int.eq_ofNat_of_zero_le (by omega:0≤r)
 rw [Int.toNat_natCast] at hpn
 have hcp:∀ v s,(if (fetchV P (lastM P (startM l) (2 ^ k)).pc).o≠0 then errP st 8 v s else TrcV st (fullV P (startM l) (2 ^ k)) (l ++ (lastM P (startM l) (2 ^ k)).r) (2 ^ k) v s)→ColP st P l k v s:=fun v s hx=>by
  unfold ColP;rw [if_neg (fun hne=>hne hb0),Int.toNat_natCast];exact hx
 have hn16:16≤2 ^ k:=by
  have:=Nat.pow_le_pow_right (n:=2) (by decide) (show 4≤k by omega)
  simpa using this
 have hn128:2 ^ k≤128:=by
  have:=Nat.pow_le_pow_right (n:=2) (by decide) (show k≤7 by omega)
  simpa using this
 have hsh:∀ (c:CallK) (r:Ev) (K:V→St→R) (s:St),xS true (iv 1) (iv k) c r s K=K (iv ((2 ^ k:Nat):Int)) s:=fun c r K s=>ishl1 k c r K (by omega)
 have hGs:=start_okR (P:=P) hl hl8
 generalize 2 ^ k=n at *
 refine Ru.rs fun P' hP=>?_
 simp -implicitDefEqProofs (disch:=first|decide|omega) [hsh]
 refine Rg.ret (hP _ _ ?_)
 clear hP P'
 refine Ru.rs fun P' hP=>?_
 simp -implicitDefEqProofs (disch:=first|decide|omega) [b1.N (n:=4) (by simp [hl])]
 refine Rg.call (rstart_ok f3.wf l hl) fun v s4 hv4=>?_
 obtain ⟨f4,rfl⟩:=hv4
 refine Rg.call (rsts_ok f4.wf (hp.fr (f3.trans f4)) hok hv hGs (n:=n) (by omega) (by omega)) fun v s5 hv5=>?_
 obtain ⟨f5,sid,c,rfl,hsid,T9⟩:=hv5
 simp -implicitDefEqProofs (disch:=first|decide|omega)
 refine Rg.ret (hP _ _ ?_)
 clear hP P'
 have b6:=(b2.fr f4).fr f5
 replace f5:=(f3.trans f4).trans f5
 have hsl:st.next+1<sid:=by have:=b2.lt;have:=f4.next;omega
 clear f4 b1 b2 f3
 have hGl:=runM_ok hv hok hGs (n - 1)
 obtain ⟨gl,egl⟩:∃ gl,gl=runM P (startM l) (n - 1):=⟨_,rfl⟩
 have hcp2:∀ v s,(if (fetchV P gl.pc).o≠0 then errP st 8 v s else TrcV st (fullV P (startM l) n) (l ++ gl.r) n v s)→ColP st P l k v s:=fun v s hx=>hcp v s (by unfold lastM;rw [← egl];exact hx)
 clear hcp
 rw [← egl] at hGl
 have en1:((n:Nat):Int) - 1=((n - 1:Nat):Int):=by omega
 have rl:=T9.N (i:=n - 1) (by omega)
 have il:=fun K=>T9.ix (i:=n - 1) (by omega) c K
 rw [← egl] at rl
 refine Ru.seq (Ru.rs fun P' hP=>?_)
 simp -implicitDefEqProofs (disch:=first|decide|omega) [en1,rl,il]
 refine Rg.call (rhalted_ok f5.wf (hp.fr f5) hok gl hGl.ok) fun v s7 hv7=>?_
 obtain ⟨f7,rfl⟩:=hv7
 simp -implicitDefEqProofs (disch:=first|decide|omega)
 refine Rg.ret (hP _ _ ?_)
 clear hP P'
 replace b6:=b6.fr f7
 replace T9:=T9.fr f7
 replace f7:=f5.trans f7
 clear f5 rl il
 have hhalt:decide ((0≤gl.pc∧gl.pc≤P.length∧validV P=0)∧(fetchV P gl.pc).o=0)=decide ((fetchV P gl.pc).o=0):=by
  rw [Bool.eq_iff_iff,decide_eq_true_iff,decide_eq_true_iff]
  have:=hGl.lo;have:=hGl.hi
  exact ⟨fun h=>h.2,fun h=>⟨⟨by omega,by omega,hv⟩,h⟩⟩
 refine Ru.cond rfl (fun h=>?_) fun h=>Ru.skip ?_
 ·have hno:(fetchV P gl.pc).o≠0:=by
   have h:(!decide ((0≤gl.pc∧gl.pc≤P.length∧validV P=0)∧(fetchV P gl.pc).o=0))=true:=by simpa using h
   rw [hhalt] at h;simpa using h
  refine Ru.rs fun P' hP=>?_
  simp -implicitDefEqProofs (disch:=first|decide|omega) [build_eq,fill_nil,b6.stoN (l':=[.nils,.nils]) (n:=2) rfl rfl]
  refine Rg.ret (hP _ _ ?_)
  clear hP P'
  exact err _ _ 8 _ rfl f7 b6 rfl rfl fun v s hv=>hcp2 v s (by rw [if_pos hno];exact hv)
 have hno:(fetchV P gl.pc).o=0:=by
  have h:(!decide ((0≤gl.pc∧gl.pc≤P.length∧validV P=0)∧(fetchV P gl.pc).o=0))=false:=by simpa using h
  rw [hhalt] at h;simpa using h
 simp only [Then]
 replace hcp2:∀ v s,TrcV st (fullV P (startM l) n) (l ++ gl.r) n v s→ColP st P l k v s:=fun v s hx=>hcp2 v s (by rw [if_neg (fun hne=>hne hno)];exact hx)
 clear err hhalt h hno
 refine Ru.rs fun P' hP=>?_
 refine Rg.ret (hP _ _ ?_)
 clear hP P'
 refine Ru.seq (Ru.rs fun P' hP=>?_)
 simp -implicitDefEqProofs (disch:=first|decide|omega)
 refine Rg.ret (hP _ _ ?_)
 clear hP P'
 refine Ru.at (fun ρ=>ρ q0=.sc y∧ρ q6=.sc (.ptr (st.next+1) 0)∧ρ q9=iv n∧ρ q10=.sc (.slice sid 0 n c 21)∧ρ q12=.sc .nils∧ρ q13=iv (0:Nat)) ⟨rfl,rfl,rfl,rfl,rfl,rfl⟩ fun ρ1 hE=>?_
 obtain ⟨e0,e6,e9,e10,e12,e13⟩:=hE
 have hl7:sid<s7.next:=T9.lt
 obtain ⟨p1,ep1⟩:∃ p1,p1=s7.next:=⟨_,rfl⟩
 rw [← ep1] at hl7
 refine Ru.block (Ru.lp [q0,q6,q9,q10] (fun j:Nat=>n - j) (fun i ρ s=>Fr st s∧Bx s (st.next+1) [.nils,.nils]∧Tb s sid n 21 (fun i=>mstC (runM P (startM l) i))∧p1≤s.next∧i≤n∧ρ q13=iv i∧∃ y',ρ q12=.sc y'∧Sat s y' i 50 (mapR (fun j=>(lineV (fetchV P (runM P (startM l) j).pc) (runM P (startM l) j)).map us) i).flatten∧Grw p1 s y' i 50)
  ⟨0,f7,b6,T9,by omega,by omega,e13,.nils,e12,Sat.nil 50,Grw.nil _ _⟩ fun i ρ s hk hI=>?_)
 clear e12 e13 f7 b6 T9
 obtain ⟨hf,b6,T9,hpn1,hi,e13,y',e12,hs,hg⟩:=hI
 refine Ru.seq (Ru.rs fun P' hP=>?_)
 simp -implicitDefEqProofs (disch:=first|decide|omega) [hk.e,e9,e13]
 refine Rg.ret (hP _ _ ?_)
 clear hP P'
 refine Ru.cond rfl (fun h=>Ru.skip ?_) fun h=>Ru.exit ?_
 ·simp at h
  replace h:i<n:=by omega
  simp only [Then,Out]
  have hR:=runM_ok hv hok hGs i
  have hll:((lineV (fetchV P (runM P (startM l) i).pc) (runM P (startM l) i)).map us).length=50:=by simp [lineV_len]
  refine Ru.seq (Ru.block (Ru.r1 fun P' hP=>?_))
  simp -implicitDefEqProofs (disch:=first|decide|omega) [hk.e,e0,e10,e13,T9.ix h,T9.N h]
  refine Rg.call (row_ok hf.wf (hp.fr hf) hok hv hR) fun v s9 hv9=>?_
  obtain ⟨f9,rfl⟩:=hv9
  generalize eln:(lineV (fetchV P (runM P (startM l) i).pc) (runM P (startM l) i)).map us=ln at hll ⊢
  obtain ⟨y2,s2,hA,f2,hs2,hg2,k2,hy2,hnx⟩:=app_build (a:=st) (st:=s9) (b:=400) (k:=1) (nc:=ln) (hf.trans f9) hw (hs.fr f9) ((hg.fr f9).le (by have:=hf.next;omega)) (by omega) (by rw [hll]) (by omega) (by omega)
  have hfill:∀ tm (K:List S→R),fillK tm K [(0,50,.c (.agg ln))] [us 0,us 0,us 0,us 0,us 0,us 0,us 0,us 0,us 0,us 0,us 0,us 0,us 0,us 0,us 0,us 0,us 0,us 0,us 0,us 0,us 0,us 0,us 0,us 0,us 0,us 0,us 0,us 0,us 0,us 0,us 0,us 0,us 0,us 0,us 0,us 0,us 0,us 0,us 0,us 0,us 0,us 0,us 0,us 0,us 0,us 0,us 0,us 0,us 0,us 0]=K ln:=fun tm K=>fill_whole tm K _ _ 50 hll rfl
  simp -implicitDefEqProofs (disch:=first|decide|omega) [e12,buildS_eq,hfill,hA]
  refine Rg.ret (hP _ _ ?_)
  clear hP P'
  have hne:∀ id,id<p1→Ev.sid y'≠some id:=fun id h1 h2=>by have:=hg.sid id h2;omega
  refine Ru.r1 fun P' hP=>?_
  simp -implicitDefEqProofs (disch:=first|decide|omega) [e13]
  refine Rg.ret (hP _ _ ?_)
  clear hP P'
  refine ⟨by repeat first | exact hk | refine Keep.up (by rfl) ?_,i+1,by omega,f2,(b6.fr f9).kp k2 (hne _ (by omega)),(T9.fr f9).kp k2 (hne _ (by omega)), ?_,by omega,rfl,y2,rfl, ?_, ?_⟩
  ·have:=f9.next;have:=k2.next;omega
  ·rw [flat_s,eln];exact hs2
  ·rcases hg2 with h0 | ⟨id,b',e1,e2,e3⟩
   ·exact .inl h0
   ·refine .inr ⟨id,b',e1, ?_,e3⟩
    rw [e1] at hy2
    have:id=s9.next+1:=by simpa [Ev.sid] using hy2
    have:=f9.next
    omega
 simp at h
 have hin:n=i:=by omega
 subst hin
 simp only [Then,Out,if_true]
 have hml:(mapR (fun j=>(lineV (fetchV P (runM P (startM l) j).pc) (runM P (startM l) j)).map us) n).length=n:=mapR_len _ _
 obtain ⟨rid,rfl,hr1,T12⟩:=Tb.grw (l:=mapR (fun j=>(lineV (fetchV P (runM P (startM l) j).pc) (runM P (startM l) j)).map us) n) (by rw [hml];exact hs) (by rw [hml];exact hg) hf.wf (by omega) (fun x hx=>by
  obtain ⟨j,_,rfl⟩:=List.mem_map.1 hx
  simp [lineV_len])
 rw [hml] at T12 e12
 have hRl:=rowsR_len P (startM l) n
 have hRw:=rowsR_wide P (startM l) n
 have T12:=T12.congr (g:=rowsF (rowsR P (startM l) n)) fun j hj=>by
  rw [mapR_get hj]
  unfold rowsF rowsR
  rw [map_range_getD hj]
 have h32:∀ i,i<(rowsR P (startM l) n).length→get2 (rowsR P (startM l) n) i 32<16:=fun i hi=>(rowsR_look hv hok hGs (by rw [hRl] at hi;exact hi)).2.2.2.2.2.1
 have I:RoI st y n sid rid c (fun i=>mstC (runM P (startM l) i)) (rowsF (rowsR P (startM l) n)) ρ s:=⟨hf,(hk.e q0 rfl).trans e0,(hk.e q6 rfl).trans e6,(hk.e q9 rfl).trans e9,(hk.e q10 rfl).trans e10,e12,hsl,by omega,b6,T9,T12⟩
 clear hf hs hg e12 b6 T9 T12 hr1 hml hk e0 e6 e9 e10 e13 hpn1 h hi
 refine Ru.rs fun P' hP=>?_
 simp -implicitDefEqProofs (disch:=first|decide|omega) [I.e12]
 refine Rg.call (rsort_ok I.fr.wf hRw hRl (by omega) I.T12) fun v s10 hv10=>?_
 obtain ⟨f10,yo,rfl,hso,hyo⟩:=hv10
 refine Rg.ret (hP _ _ ?_)
 clear hP P'
 have hrs:rid<s.next:=I.T12.lt
 replace I:=I.mv f10
 have hfv:fullV P (startM l) n=cntI (progR (rowsR P (startM l) n) (ordV (rowsR P (startM l) n)) n) n:=rfl
 have hlook:∀ i,i<(progR (rowsR P (startM l) n) (ordV (rowsR P (startM l) n)) n).length→∀ c∈lookV,get2 (progR (rowsR P (startM l) n) (ordV (rowsR P (startM l) n)) n) i c<(progR (rowsR P (startM l) n) (ordV (rowsR P (startM l) n)) n).length:=fullR_look hv hok hGs hn16 (by omega) hpn
 have hreg:∀ i b,i<n→b<4→get2 (rowsR P (startM l) n) i (1+b)=(runM P (startM l) i).r.getD b 0:=fun i b hi hb=>by
  rw [rowsR_get hi]
  rcases (show b=0∨b=1∨b=2∨b=3 by omega) with rfl | rfl | rfl | rfl <;> rfl
 generalize rowsR P (startM l) n=R0 at *
 obtain ⟨ord,eord⟩:∃ ord,ord=ordV R0:=⟨_,rfl⟩
 have hol:ord.length=n:=by rw [eord,ordV_length h32,hRl]
 rw [← eord,hol] at hso
 rw [← eord] at hfv hlook
 rw [hfv] at hcp2
 have hom:∀ a∈ord,a<n:=fun a ha=>by rw [eord] at ha;rw [← hRl];exact (ordV_mem h32 a).1 ha
 have hu:∀ j,j<n→uV R0 ord j<16:=fun j hj=>by
  unfold uV
  refine h32 _ ?_
  rw [List.getD_eq_getElem?_getD,List.getElem?_eq_getElem (by omega),hRl]
  exact hom _ (List.getElem_mem _)
 have ht:∀ j,j<n→tV ord j<n:=fun j hj=>by
  unfold tV
  rw [List.getD_eq_getElem?_getD,List.getElem?_eq_getElem (by omega)]
  exact hom _ (List.getElem_mem _)
 obtain ⟨oid,oo,oc,rfl,_⟩:=hso.rd (by omega)
 have hoid:rid<oid:=by have:=hyo oid rfl;omega
 have hso':∀ i,i<n→rd s10 oid (oo+i)=some (isN (ord.getD i 0)):=fun i hi=>by
  obtain ⟨id',o',c',e,hr⟩:=hso.rd (by omega)
  cases e
  exact hr i _ (by simp [List.getD_eq_getElem?_getD,hol,hi])
 clear hyo f10
 refine Ru.seq (Ru.rs fun P' hP=>?_)
 simp -implicitDefEqProofs (disch:=first|decide|omega)
 refine Rg.ret (hP _ _ ?_)
 clear hP P'
 refine Ru.at (fun ρ=>RoI st y n sid rid c (fun i=>mstC (runM P (startM l) i)) (rowsF R0) ρ s10∧ρ q14=.sc (.slice oid oo n oc 1)∧ρ q15=iv (0:Nat)) ⟨I.env rfl rfl rfl rfl rfl,rfl,rfl⟩ fun ρ2 hE=>?_
 clear I
 obtain ⟨I,e14,e15⟩:=hE
 refine Ru.block (Ru.lp [] (fun j:Nat=>n - j) (fun i ρ s=>RoI st y n sid rid c (fun i=>mstC (runM P (startM l) i)) (rowsF (refA R0 ord i)) ρ s∧(∀ i,i<n→rd s oid (oo+i)=some (isN (ord.getD i 0)))∧i≤n∧ρ q15=iv i∧ρ q14=.sc (.slice oid oo n oc 1))
  ⟨0,by rw [refA_0];exact I,hso',by omega,e15,e14⟩ fun i ρ s hk hI=>?_)
 clear I e14 e15 hso hso' hk
 obtain ⟨I,hso,hi,e15,e14⟩:=hI
 refine Ru.seq (Ru.rs fun P' hP=>?_)
 simp -implicitDefEqProofs (disch:=first|decide|omega) [I.e9,e15]
 refine Rg.ret (hP _ _ ?_)
 clear hP P'
 refine Ru.cond rfl (fun h=>Ru.skip ?_) fun h=>Ru.exit ?_
 ·simp at h
  replace h:i<n:=by omega
  simp only [Then,Out]
  have hRl':(refA R0 ord i).length=n:=by rw [refA_len,hRl]
  have hRw':=refA_wide hRw (ord:=ord) i
  have hfr:ord.getD i 0<n:=ht i h
  have hoi:=hso i h
  have g32:get2 (refA R0 ord i) (ord.getD i 0) 32=uV R0 ord i:=refA_low (by omega) (by decide)
  have g34:get2 (refA R0 ord i) (ord.getD i 0) 34=vV R0 ord i:=refA_low (by omega) (by decide)
  have g11:get2 (refA R0 ord i) (ord.getD i 0) 11=wV R0 ord i:=refA_low (by omega) (by decide)
  have eti:tV ord i=ord.getD i 0:=rfl
  generalize ord.getD i 0=fr at *
  have hrl:=rowsF_len hRw' (show fr<(refA R0 ord i).length by omega)
  have c32:=rowsF_get hRw' (show fr<(refA R0 ord i).length by omega) (j:=32) (by decide)
  have c34:=rowsF_get hRw' (show fr<(refA R0 ord i).length by omega) (j:=34) (by decide)
  have c11:=rowsF_get hRw' (show fr<(refA R0 ord i).length by omega) (j:=11) (by decide)
  rw [g32] at c32
  rw [g34] at c34
  rw [g11] at c11
  have hixo:∀ K:V→R,ixs 1 (.sc (.slice oid oo n oc 1)) (iv i) K=K (.sc (.ptr oid (oo+i))):=fun K=>by
   rw [ixs_eq 1 K (by omega) (by omega)];simp
  have hst:∀ K:St→R,Ev.sto (new s [us 0,us 0,us 0,us 0,us 0,us 0,us 0,us 0,us 0,us 0,us 0,us 0,us 0,us 0,us 0,us 0,us 0,us 0,us 0,us 0,us 0,us 0,us 0,us 0,us 0,us 0,us 0,us 0,us 0,us 0,us 0,us 0,us 0,us 0,us 0,us 0,us 0,us 0,us 0,us 0,us 0,us 0,us 0,us 0,us 0,us 0,us 0,us 0,us 0,us 0]) 50 (.sc (.ptr s.next 0)) (.agg (rowsF (refA R0 ord i) fr)) K=K (wr (new s [us 0,us 0,us 0,us 0,us 0,us 0,us 0,us 0,us 0,us 0,us 0,us 0,us 0,us 0,us 0,us 0,us 0,us 0,us 0,us 0,us 0,us 0,us 0,us 0,us 0,us 0,us 0,us 0,us 0,us 0,us 0,us 0,us 0,us 0,us 0,us 0,us 0,us 0,us 0,us 0,us 0,us 0,us 0,us 0,us 0,us 0,us 0,us 0,us 0,us 0]) s.next 0 (rowsF (refA R0 ord i) fr)):=fun K=>(Bx.new (s:=s) (l:=[us 0,us 0,us 0,us 0,us 0,us 0,us 0,us 0,us 0,us 0,us 0,us 0,us 0,us 0,us 0,us 0,us 0,us 0,us 0,us 0,us 0,us 0,us 0,us 0,us 0,us 0,us 0,us 0,us 0,us 0,us 0,us 0,us 0,us 0,us 0,us 0,us 0,us 0,us 0,us 0,us 0,us 0,us 0,us 0,us 0,us 0,us 0,us 0,us 0,us 0])).stoN (l':=rowsF (refA R0 ord i) fr) (n:=50) hrl rfl K
  refine Ru.seq (Ru.block ?_)
  refine Ru.rs fun P' hP=>?_
  simp -implicitDefEqProofs (disch:=first|decide|omega) [I.e12,e14,e15,hixo,hoi,I.T12.ix hfr,I.T12.N hfr,hst]
  refine Rg.ret (hP _ _ ?_)
  clear hP P'
  have fb:=fr_mk I.fr.wf (A50 fun _=>0) (rowsF (refA R0 ord i) fr)
  have bb:Bx (wr (new s (A50 fun _=>0)) s.next 0 (rowsF (refA R0 ord i) fr)) s.next (rowsF (refA R0 ord i) fr):=Bx.mk' (by rw [hrl,A50_len])
  have hib:rid<s.next:=I.T12.lt
  replace I:=I.mv fb
  replace hso:=fun i hi=>fb.rd (hso i hi)
  replace hoi:=fb.rd hoi
  show Ru _ _ _ (wr (new s (A50 fun _=>0)) s.next 0 (rowsF (refA R0 ord i) fr)) _
  generalize wr (new s (A50 fun _=>0)) s.next 0 (rowsF (refA R0 ord i) fr)=s1 at *
  generalize s.next=ib at *
  clear fb hst
  have fin:∀ (ρ:Ev) (s:St) (B:X→Ev→St→Prop),RoI st y n sid rid c (fun i=>mstC (runM P (startM l) i)) (rowsF (refA R0 ord (i+1))) ρ s→(∀ i,i<n→rd s oid (oo+i)=some (isN (ord.getD i 0)))→ρ q15=iv i→ρ q14=.sc (.slice oid oo n oc 1)→Ru (cF F) (.reg [q15] fun c r s K=>binK .add (r q15) I1 fun v0=>K [v0] s) ρ s (Then (fun ρ'' s=>Keep [] ρ'' ρ2∧∃ a',n - a'<n - i∧RoI st y n sid rid c (fun i=>mstC (runM P (startM l) i)) (rowsF (refA R0 ord a')) ρ'' s∧(∀ i,i<n→rd s oid (oo+i)=some (isN (ord.getD i 0)))∧a'≤n∧ρ'' q15=iv a'∧ρ'' q14=.sc (.slice oid oo n oc 1)) B):=fun ρ s B I hso e15 e14=>by
   refine Ru.r1 fun P' hP=>?_
   simp -implicitDefEqProofs (disch:=first|decide|omega) [e15]
   refine Rg.ret (hP _ _ ?_)
   clear hP P'
   exact ⟨(fun q hq=>by cases hq),i+1,by omega,I.env rfl rfl rfl rfl rfl,hso,by omega,rfl,e14⟩
  refine Ru.at (fun ρ=>RoI st y n sid rid c (fun i=>mstC (runM P (startM l) i)) (rowsF (refA R0 ord i)) ρ s1∧ρ q14=.sc (.slice oid oo n oc 1)∧ρ q15=iv i∧ρ q16=.sc (.ptr ib 0)) ⟨I.env rfl rfl rfl rfl rfl,e14,e15,rfl⟩ fun ρ3 hE=>?_
  clear I e14 e15
  obtain ⟨I,e14,e15,e16⟩:=hE
  have hm50:=mul_le_of_lt h 50
  obtain ⟨m,ho,hm⟩:=I.T12.own
  have J1:=I.rows hw hRl' h (j:=35) (by decide) (uV R0 ord i) rfl
  have J2:=J1.rows hw (setC_len.trans hRl') h (j:=36) (by decide) fr rfl
  have J3:=J2.rows hw (setC_len.trans (setC_len.trans hRl')) h (j:=37) (by decide) (vV R0 ord i) rfl
  have J4:=J3.rows hw (setC_len.trans (setC_len.trans (setC_len.trans hRl'))) h (j:=38) (by decide) (wV R0 ord i) rfl
  refine Ru.ds fun P' hP=>?_
  simp -implicitDefEqProofs (disch:=first|decide|omega | (apply okS_t;decide;(simp (decide:=true) <;> omega))) [I.e12,e14,e15,e16,bb.rd 32 _ c32,bb.rd 34 _ c34,bb.rd 11 _ c11,hixo,hoi,I.T12.ix h,dS_ok (off:=i * 50+35) ho (by omega),dS_ok (off:=i * 50+36) ho.wr (by omega),dS_ok (off:=i * 50+37) ho.wr.wr (by omega),dS_ok (off:=i * 50+38) ho.wr.wr.wr (by omega)]
  refine Rg.ret (hP _ _ ?_)
  clear hP P'
  have ne:∀ (s:St) (o:Nat) (x:List S),Bx s ib (rowsF (refA R0 ord i) fr)→True:=fun _ _ _ _=>trivial
  have kk:Kp (some rid) s1 (wr (wr (wr (wr s1 rid (i * 50+35) [us (uV R0 ord i)]) rid (i * 50+36) [us fr]) rid (i * 50+37) [us (vV R0 ord i)]) rid (i * 50+38) [us (wV R0 ord i)]):=(((I.T12.kpw I.fr.wf _ _).trans (J1.T12.kpw J1.fr.wf _ _)).trans (J2.T12.kpw J2.fr.wf _ _)).trans (J3.T12.kpw J3.fr.wf _ _)
  replace hso:=fun i hi=>kk.rd (ne_some (by omega)) (hso i hi)
  have hr50:(R0.getD i []).length=50:=hRw.getD (by omega)
  have eR4:setC (setC (setC (setC (refA R0 ord i) i 35 (uV R0 ord i)) i 36 fr) i 37 (vV R0 ord i)) i 38 (wV R0 ord i)=(refA R0 ord i).set i (W0 R0 ord i (R0.getD i [])):=by
   show setC (setC (setC ((refA R0 ord i).set i (((refA R0 ord i).getD i []).set 35 (uV R0 ord i))) i 36 fr) i 37 (vV R0 ord i)) i 38 (wV R0 ord i)=_
   rw [set_setC (by omega),set_setC (by omega),set_setC (by omega),refA_at (by omega),← eti];rfl
  rw [eR4] at J4
  have I:=J4
  clear J1 J2 J3 J4 ho eR4 g32 g34 g11 kk ne c32 c34 c11 bb
  generalize wr (wr (wr (wr s1 rid (i * 50+35) [us (uV R0 ord i)]) rid (i * 50+36) [us fr]) rid (i * 50+37) [us (vV R0 ord i)]) rid (i * 50+38) [us (wV R0 ord i)]=s5 at *
  have hl4:((refA R0 ord i).set i (W0 R0 ord i (R0.getD i []))).length=n:=by rw [List.length_set,hRl']
  have hw4:Wide ((refA R0 ord i).set i (W0 R0 ord i (R0.getD i []))):=hRw'.set (by rw [W0_len,hr50])
  have r38:=I.T12.rows hw4 hl4 h (j:=38) (by decide)
  have r37:=I.T12.rows hw4 hl4 h (j:=37) (by decide)
  rw [get2_set (by omega),if_pos rfl,W0_w _ _ hr50] at r38
  rw [get2_set (by omega),if_pos rfl,W0_v _ _ hr50] at r37
  refine Ru.rs fun P' hP=>?_
  simp -implicitDefEqProofs (disch:=first|decide|omega) [I.e12,e15,I.T12.ix h,r38]
  refine Rg.ret (hP _ _ ?_)
  clear hP P'
  refine Ru.cond rfl (fun h0=>?_) fun h0=>Ru.skip ?_
  ·simp at h0
   obtain ⟨m,ho,hm⟩:=I.T12.own
   refine Ru.d1 fun P' hP=>?_
   simp -implicitDefEqProofs (disch:=first|decide|omega | (apply okS_t;decide;(simp (decide:=true) <;> omega))) [I.e12,e15,I.T12.ix h,r37,dS_ok (off:=i * 50+41) ho (by omega)]
   refine Rg.ret (hP _ _ ?_)
   clear hP P'
   have k6:=I.T12.kpw I.fr.wf (i * 50+41) [us (vV R0 ord i)]
   refine fin _ _ _ ((I.rows hw hl4 h (j:=41) (by decide) (vV R0 ord i) ?_).env rfl rfl rfl rfl rfl) (fun i hi=>k6.rd (ne_some (by omega)) (hso i hi)) e15 e14
   rw [set_setC (by omega),← refA_s]
   unfold W1
   rw [if_pos h0]
  ·simp at h0
   have e:(refA R0 ord i).set i (W0 R0 ord i (R0.getD i []))=refA R0 ord (i+1):=by
    rw [← refA_s]
    unfold W1
    rw [if_neg h0]
   rw [e] at I
   exact fin _ _ _ (I.env rfl rfl rfl rfl rfl) hso e15 e14
 simp at h
 have hin:n=i:=by omega
 subst hin
 simp only [Then,Out,if_true]
 have eAB:refA R0 ord n=refB R0 ord 0:=by rw [← hRl];exact refAB
 rw [eAB] at I
 clear hso e14 e15 h hi eAB
 refine Ru.seq (Ru.rs fun P' hP=>?_)
 simp -implicitDefEqProofs (disch:=first|decide|omega)
 refine Rg.ret (hP _ _ ?_)
 clear hP P'
 refine Ru.at (fun ρ=>RoI st y n sid rid c (fun i=>mstC (runM P (startM l) i)) (rowsF (refB R0 ord 0)) ρ s∧ρ q17=iv (0:Nat)) ⟨I.env rfl rfl rfl rfl rfl,rfl⟩ fun ρ4 hE=>?_
 clear I
 obtain ⟨I,e17⟩:=hE
 refine Ru.block (Ru.lp [] (fun j:Nat=>n - j) (fun i ρ s=>RoI st y n sid rid c (fun i=>mstC (runM P (startM l) i)) (rowsF (refB R0 ord i)) ρ s∧i+1≤n∧ρ q17=iv i)
  ⟨0,I,by omega,e17⟩ fun i ρ s hk hI=>?_)
 clear I e17 hk
 obtain ⟨I,hi,e17⟩:=hI
 refine Ru.seq (Ru.rs fun P' hP=>?_)
 simp -implicitDefEqProofs (disch:=first|decide|omega) [I.e9,e17]
 refine Rg.ret (hP _ _ ?_)
 clear hP P'
 refine Ru.cond rfl (fun h=>Ru.skip ?_) fun h=>Ru.exit ?_
 ·simp at h
  replace h:i+1<n:=by omega
  have hin:i<n:=by omega
  simp only [Then,Out]
  have hRl':(refB R0 ord i).length=n:=by rw [refB_len,hRl]
  have hRw':=refB_wide hRw (ord:=ord) i
  have ri:=hRw.getD (i:=i) (by omega)
  have ri1:=hRw.getD (i:=i+1) (by omega)
  have gi:=refB_at (R0:=R0) (ord:=ord) (i:=i) (j:=i) (by omega) (Nat.le_refl _)
  have gi1:=refB_at (R0:=R0) (ord:=ord) (i:=i) (j:=i+1) (by omega) (by omega)
  have a35:get2 (refB R0 ord i) i 35=uV R0 ord i:=by unfold get2;rw [gi];exact W1_u _ _ ri
  have a36:get2 (refB R0 ord i) i 36=tV ord i:=by unfold get2;rw [gi];exact W1_t _ _ ri
  have b35:get2 (refB R0 ord i) (i+1) 35=uV R0 ord (i+1):=by unfold get2;rw [gi1];exact W1_u _ _ ri1
  have b36:get2 (refB R0 ord i) (i+1) 36=tV ord (i+1):=by unfold get2;rw [gi1];exact W1_t _ _ ri1
  have u0:=hu i hin
  have u1:=hu (i+1) h
  have t0:=ht i hin
  have t1:=ht (i+1) h
  have ra35:=I.T12.rows hRw' hRl' hin (j:=35) (by decide)
  have ra36:=I.T12.rows hRw' hRl' hin (j:=36) (by decide)
  have rb35:=I.T12.rows hRw' hRl' h (j:=35) (by decide)
  have rb36:=I.T12.rows hRw' hRl' h (j:=36) (by decide)
  rw [a35] at ra35
  rw [a36] at ra36
  rw [b35] at rb35
  rw [b36] at rb36
  have hix1:∀ K:V→R,ixs 50 (.sc (.slice rid 0 n none 50)) (iv ((i:Int)+1)) K=K (.sc (.ptr rid ((i+1) * 50))):=fun K=>I.T12.ix h none K
  have hs64:sub64 (tV ord (i+1)) (tV ord i)<18446744073709551616:=by unfold sub64;omega
  have hs64':sub64 (uV R0 ord (i+1)) (uV R0 ord i)<18446744073709551616:=by unfold sub64;omega
  obtain ⟨m,ho,hm⟩:=I.T12.own
  have hm50:=mul_le_of_lt hin 50
  have fin:∀ (ρ:Ev) (s:St) (B:X→Ev→St→Prop),RoI st y n sid rid c (fun i=>mstC (runM P (startM l) i)) (rowsF (refB R0 ord (i+1))) ρ s→ρ q17=iv i→Ru (cF F) (.reg [q17] fun c r s K=>binK .add (r q17) I1 fun v0=>K [v0] s) ρ s (Then (fun ρ'' s=>Keep [] ρ'' ρ4∧∃ a',n - a'<n - i∧RoI st y n sid rid c (fun i=>mstC (runM P (startM l) i)) (rowsF (refB R0 ord a')) ρ'' s∧a'+1≤n∧ρ'' q17=iv a') B):=fun ρ s B I e17=>by
   refine Ru.r1 fun P' hP=>?_
   simp -implicitDefEqProofs (disch:=first|decide|omega) [e17]
   refine Rg.ret (hP _ _ ?_)
   clear hP P'
   exact ⟨(fun q hq=>by cases hq),i+1,by omega,I.env rfl rfl rfl rfl rfl,by omega,rfl⟩
  refine Ru.seq (Ru.block ?_)
  refine Ru.ds fun P' hP=>?_
  simp -implicitDefEqProofs (disch:=first|decide|omega) [I.e12,e17,hix1,I.T12.ix hin,ra35,rb35]
  refine Rg.ret (hP _ _ ?_)
  clear hP P'
  refine Ru.cond rfl (fun h1=>?_) fun h1=>?_
  ·simp at h1
   refine Ru.d1 fun P' hP=>?_
   simp -implicitDefEqProofs (disch:=first|decide|omega | (apply okS_t;decide;(simp (decide:=true) <;> omega))) [I.e12,e17,hix1,I.T12.ix hin,ra36,rb36,usub0,dS_ok (off:=i * 50+39) ho (by omega),dS_ok (off:=i * 50+40) ho.wr (by omega)]
   refine Rg.ret (hP _ _ ?_)
   clear hP P'
   have J1:=I.rows hw hRl' hin (j:=39) (by decide) 1 rfl
   refine fin _ _ _ ((J1.rows hw (setC_len.trans hRl') hin (j:=40) (by decide) (sub64 (sub64 (tV ord (i+1)) (tV ord i)) 1) ?_).env rfl rfl rfl rfl rfl) e17
   rw [← refB_s,setC_setC (by omega),gi]
   unfold W2 dV
   rw [if_pos h1.symm,if_pos h1.symm]
  ·simp at h1
   refine Ru.d1 fun P' hP=>?_
   simp -implicitDefEqProofs (disch:=first|decide|omega | (apply okS_t;decide;(simp (decide:=true) <;> omega))) [I.e12,e17,hix1,I.T12.ix hin,ra35,rb35,usub0,dS_ok (off:=i * 50+40) ho (by omega)]
   refine Rg.ret (hP _ _ ?_)
   clear hP P'
   refine fin _ _ _ ((I.rows hw hRl' hin (j:=40) (by decide) (sub64 (sub64 (uV R0 ord (i+1)) (uV R0 ord i)) 1) ?_).env rfl rfl rfl rfl rfl) e17
   rw [← refB_s]
   unfold setC W2 dV
   rw [gi,if_neg (fun e=>h1 e.symm),if_neg (fun e=>h1 e.symm)]
 simp at h
 have hin:i=n - 1:=by omega
 subst hin
 simp only [Then,Out,if_true]
 have eBP:refB R0 ord (n - 1)=progR R0 ord n:=by rw [← hRl];exact refB_prog (by omega)
 rw [eBP] at I
 have hpl:(progR R0 ord n).length=n:=by rw [progR_len,hRl]
 have hpw:=progR_wide hRw (ord:=ord) n
 have hlow:∀ i b,i<n→b<4→get2 (progR R0 ord n) i (1+b)=(runM P (startM l) i).r.getD b 0:=fun i b hi hb=>by
  rw [progR_low (by omega) (by omega)];exact hreg i b hi hb
 clear eBP hfv hreg hu ht hom hol eord h32 e17 h hi
 generalize progR R0 ord n=Rt at *
 clear hRl hRw
 have hcnt:=fun k (hk:k≤Rt.length)=>Cnt.stepI hpw hlook k hk
 have hfl:∀ tm (K:List S→R),fillK tm K [(0,1,.c (iv 0)),(1,1,.c (iv 26)),(2,1,.c (iv 27)),(3,1,.c (iv 28)),(4,1,.c (iv 29)),(5,1,.c (iv 32)),(6,1,.c (iv 33)),(7,1,.c (iv 40))] [is 0,is 0,is 0,is 0,is 0,is 0,is 0,is 0]=K (lookV.map isN):=fun tm K=>by
  rw [fill_sc tm K _ _ _ _ (by simp),fill_sc tm K _ _ _ _ (by simp [setRange]),fill_sc tm K _ _ _ _ (by simp [setRange]),fill_sc tm K _ _ _ _ (by simp [setRange]),fill_sc tm K _ _ _ _ (by simp [setRange]),fill_sc tm K _ _ _ _ (by simp [setRange]),fill_sc tm K _ _ _ _ (by simp [setRange]),fill_sc tm K _ _ _ _ (by simp [setRange]),fill_nil];rfl
 have hst:∀ K:St→R,Ev.sto (new s [is 0,is 0,is 0,is 0,is 0,is 0,is 0,is 0]) 8 (.sc (.ptr s.next 0)) (.agg (lookV.map isN)) K=K (wr (new s [is 0,is 0,is 0,is 0,is 0,is 0,is 0,is 0]) s.next 0 (lookV.map isN)):=fun K=>(Bx.new (s:=s) (l:=[is 0,is 0,is 0,is 0,is 0,is 0,is 0,is 0])).stoN (l':=lookV.map isN) (n:=8) rfl rfl K
 refine Ru.rs fun P' hP=>?_
 simp -implicitDefEqProofs (disch:=first|decide|omega) [build_eq,hfl,hst]
 refine Rg.ret (hP _ _ ?_)
 clear hP P'
 have fb:=fr_mk I.fr.wf [is 0,is 0,is 0,is 0,is 0,is 0,is 0,is 0] (lookV.map isN)
 have bL:Bx (wr (new s [is 0,is 0,is 0,is 0,is 0,is 0,is 0,is 0]) s.next 0 (lookV.map isN)) s.next (lookV.map isN):=Bx.mk' rfl
 have hrL:rid<s.next:=I.T12.lt
 replace I:=I.mv fb
 generalize wr (new s [is 0,is 0,is 0,is 0,is 0,is 0,is 0,is 0]) s.next 0 (lookV.map isN)=s1 at *
 generalize s.next=lb at *
 clear fb hst hfl
 refine Ru.seq (Ru.rs fun P' hP=>?_)
 simp -implicitDefEqProofs (disch:=first|decide|omega)
 refine Rg.ret (hP _ _ ?_)
 clear hP P'
 refine Ru.at (fun ρ=>RoI st y n sid rid c (fun i=>mstC (runM P (startM l) i)) (rowsF (cntI Rt 0)) ρ s1∧ρ q18=.sc (.ptr lb 0)∧ρ q19=iv (0:Nat)) ⟨I.env rfl rfl rfl rfl rfl,rfl,rfl⟩ fun ρ5 hE=>?_
 clear I
 obtain ⟨I,e18,e19⟩:=hE
 refine Ru.block (Ru.lp [] (fun j:Nat=>n - j) (fun i ρ s=>RoI st y n sid rid c (fun i=>mstC (runM P (startM l) i)) (rowsF (cntI Rt i)) ρ s∧Bx s lb (lookV.map isN)∧i≤n∧ρ q19=iv i∧ρ q18=.sc (.ptr lb 0))
  ⟨0,I,bL,by omega,e19,e18⟩ fun i ρ s hk hI=>?_)
 clear I bL e18 e19 hk
 obtain ⟨I,bL,hi,e19,e18⟩:=hI
 refine Ru.seq (Ru.rs fun P' hP=>?_)
 simp -implicitDefEqProofs (disch:=first|decide|omega) [I.e9,e19]
 refine Rg.ret (hP _ _ ?_)
 clear hP P'
 refine Ru.cond rfl (fun h=>Ru.skip ?_) fun h=>Ru.exit ?_
 ·simp at h
  replace h:i<n:=by omega
  simp only [Then,Out]
  have hC:=hcnt i (by omega)
  refine Ru.seq (Ru.block (Ru.rs fun P' hP=>?_))
  simp -implicitDefEqProofs (disch:=first|decide|omega)
  refine Rg.ret (hP _ _ ?_)
  clear hP P'
  refine Ru.at (fun ρ'=>RoI st y n sid rid c (fun i=>mstC (runM P (startM l) i)) (rowsF (cntJ (cntI Rt i) i 0)) ρ' s∧ρ' q18=.sc (.ptr lb 0)∧ρ' q19=iv i∧ρ' q20=iv (0:Nat)) ⟨I.env rfl rfl rfl rfl rfl,e18,e19,rfl⟩ fun ρ6 hE=>?_
  clear I e18 e19
  obtain ⟨I,e18,e19,e20⟩:=hE
  refine Ru.block (Ru.lp [] (fun j:Nat=>8 - j) (fun j ρ s=>RoI st y n sid rid c (fun i=>mstC (runM P (startM l) i)) (rowsF (cntJ (cntI Rt i) i j)) ρ s∧Bx s lb (lookV.map isN)∧j≤8∧ρ q20=iv j∧ρ q19=iv i∧ρ q18=.sc (.ptr lb 0))
   ⟨0,I,bL,by omega,e20,e19,e18⟩ fun j ρ' s' hk hI=>?_)
  clear I bL e18 e19 e20 hk
  obtain ⟨I,bL,hj,e20,e19,e18⟩:=hI
  refine Ru.seq (Ru.rs fun P' hP=>?_)
  simp -implicitDefEqProofs (disch:=first|decide|omega) [e20]
  refine Rg.ret (hP _ _ ?_)
  clear hP P'
  refine Ru.cond rfl (fun h2=>Ru.skip ?_) fun h2=>Ru.exit ?_
  ·simp at h2
   simp only [Then,Out]
   have hj8:j<8:=by omega
   have hD:=hC.stepJ hlook (show i<Rt.length by omega) j (by omega)
   have hlj:(lookV.map isN)[j]?=some (isN (lookV.getD j 0)):=by
    rw [List.getElem?_map,List.getD_eq_getElem?_getD,List.getElem?_eq_getElem (show j<lookV.length from hj8)];rfl
   have hmem:lookV.getD j 0∈lookV:=by
    rw [List.getD_eq_getElem?_getD,List.getElem?_eq_getElem (show j<lookV.length from hj8)];exact List.getElem_mem _
   have hc42:lookV.getD j 0<42:=(by decide:∀ c∈lookV,c<42) _ hmem
   have hs1:cntS (cntJ (cntI Rt i) i j) i j=cntJ (cntI Rt i) i (j+1):=(cntJ_s _ _ _).symm
   unfold cntS at hs1
   have hval:get2 (cntJ (cntI Rt i) i j) i (lookV.getD j 0)<n:=by
    rw [hD.low i _ hc42,← hpl];exact hlook i (by omega) _ hmem
   generalize lookV.getD j 0=cc at *
   have hl1:(cntJ (cntI Rt i) i j).length=n:=by rw [hD.len,hpl]
   generalize cntJ (cntI Rt i) i j=R1 at *
   have rv:=I.T12.rows hD.wide hl1 h (j:=cc) (by omega)
   generalize get2 R1 i cc=val at *
   have rw2:=I.T12.rows hD.wide hl1 hval (j:=42+j) (by omega)
   have e42:((42:Int)+j).toNat=42+j:=by omega
   have hmv:=mul_le_of_lt hval 50
   obtain ⟨m,ho,hm⟩:=I.T12.own
   refine Ru.seq (Ru.block (Ru.d1 fun P' hP=>?_))
   simp -implicitDefEqProofs (disch:=first|decide|omega | (apply okS_t;decide;(simp (decide:=true) <;> omega))) [I.e12,e18,e19,e20,bL.rd _ _ hlj,I.T12.ix h,I.T12.ixu hval,rv,rw2,e42,uaddw,dS_ok (off:=val * 50+(42+j)) ho (by omega)]
   refine Rg.ret (hP _ _ ?_)
   clear hP P'
   refine Ru.r1 fun P' hP=>?_
   simp -implicitDefEqProofs (disch:=first|decide|omega) [e20]
   refine Rg.ret (hP _ _ ?_)
   clear hP P'
   have k1:=I.T12.kpw I.fr.wf (val * 50+(42+j)) [us ((get2 R1 val (42+j)+1) % 18446744073709551616)]
   exact ⟨(fun q hq=>by cases hq),j+1,by omega,(I.rows hw hl1 hval (j:=42+j) (by omega) _ hs1).env rfl rfl rfl rfl rfl,bL.kp k1 (ne_some (by omega)),by omega,rfl,e19,e18⟩
  simp at h2
  have hj8:j=8:=by omega
  subst hj8
  simp only [Then,Out,if_true]
  rw [← cntI_s] at I
  refine Ru.r1 fun P' hP=>?_
  simp -implicitDefEqProofs (disch:=first|decide|omega) [e19]
  refine Rg.ret (hP _ _ ?_)
  clear hP P'
  exact ⟨(fun q hq=>by cases hq),i+1,by omega,I.env rfl rfl rfl rfl rfl,bL,by omega,rfl,e18⟩
 simp at h
 have hin:n=i:=by omega
 subst hin
 simp only [Then,Out,if_true]
 have hC:=hcnt n (by omega)
 have hlow2:∀ i b,i<n→b<4→get2 (cntI Rt n) i (1+b)=(runM P (startM l) i).r.getD b 0:=fun i b hi hb=>by
  rw [hC.low _ _ (by omega)];exact hlow i b hi hb
 have hl1:(cntI Rt n).length=n:=by rw [hC.len,hpl]
 have hw1:=hC.wide
 clear hlow hC hcnt hlook hpl hpw bL e18 e19 h hi
 generalize cntI Rt n=RR at *
 have hfill:∀ tm (K:List S→R),fillK tm K [(1,1,.c (.sc (.slice s.next 0 50 (some 50) 1)))] [zn,zn]=K [zn,.slice s.next 0 50 (some 50) 1]:=fun tm K=>by
  rw [fill_sc tm K _ 1 _ _ (by decide),fill_nil];rfl
 have hst2:∀ K:St→R,Ev.sto (new (mkz s 50 1 [.nils]) [zn,zn]) 2 (.sc (.ptr (s.next+1) 0)) (.agg [zn,.slice s.next 0 50 (some 50) 1]) K=K (wr (new (mkz s 50 1 [.nils]) [zn,zn]) (s.next+1) 0 [zn,.slice s.next 0 50 (some 50) 1]):=fun K=>(Bx.new (s:=mkz s 50 1 [.nils]) (l:=[zn,zn])).stoN (l':=[zn,.slice s.next 0 50 (some 50) 1]) (n:=2) rfl rfl K
 refine Ru.rs fun P' hP=>?_
 simp -implicitDefEqProofs (disch:=first|decide|omega) [xM_eq' (st:=s) 1 24 50 50 [.nils],build_eq,hfill,hst2]
 refine Rg.ret (hP _ _ ?_)
 clear hP P'
 have fk:=fr_mkz (n:=50) (Fr.refl I.fr.wf) [.nils] 1
 have bM:=Bx.mkz1 (s:=s) .nils 50
 have fk2:=fr_mk fk.wf [.nils,.nils] [.nils,.slice s.next 0 50 (some 50) 1]
 have bT:Bx (wr (new (mkz s 50 1 [.nils]) [.nils,.nils]) (s.next+1) 0 [.nils,.slice s.next 0 50 (some 50) 1]) (s.next+1) [.nils,.slice s.next 0 50 (some 50) 1]:=Bx.mk' rfl
 have bM:=bM.fr fk2
 have hrs2:=I.T12.lt
 replace I:RoI st y n sid rid c (fun i=>mstC (runM P (startM l) i)) (rowsF RR) ρ (wr (new (mkz s 50 1 [.nils]) [.nils,.nils]) (s.next+1) 0 [.nils,.slice s.next 0 50 (some 50) 1]):=(I.mv fk).mv fk2
 show Ru _ _ _ (wr (new (mkz s 50 1 [.nils]) [.nils,.nils]) (s.next+1) 0 [.nils,.slice s.next 0 50 (some 50) 1]) _
 have FL:FlI n rid (s.next+1) s.next none RR 0 _ _:=⟨by simp,hrs2,by omega,bT,bM,I.T12,fun k hk=>by omega,fun k _ hk=>by rw [List.getElem?_replicate,if_pos hk]⟩
 generalize wr (new (mkz s 50 1 [.nils]) [.nils,.nils]) (s.next+1) 0 [.nils,.slice s.next 0 50 (some 50) 1]=s12 at *
 generalize List.replicate 50 S.nils=ys at *
 clear bT bM fk fk2 hfill hst2
 have hst18:st.next≤s.next:=by have:=I.l10;have:=I.l12;omega
 generalize s.next=mid at *
 obtain ⟨tb,etb⟩:∃ tb,tb=mid+1:=⟨_,rfl⟩
 rw [← etb] at FL ⊢
 have hrm:=FL.lm
 refine Ru.seq (Ru.rs fun P' hP=>?_)
 simp -implicitDefEqProofs (disch:=first|decide|omega)
 refine Rg.ret (hP _ _ ?_)
 clear hP P'
 refine Ru.at (fun ρ=>RoI st y n sid rid c (fun i=>mstC (runM P (startM l) i)) (rowsF RR) ρ s12∧ρ q22=iv (0:Nat)∧ρ q21=.sc (.ptr tb 0)) ⟨I.env rfl rfl rfl rfl rfl,rfl,rfl⟩ fun ρ7 hE=>?_
 clear I
 obtain ⟨I,e22,e21⟩:=hE
 refine Ru.block (Ru.lp [] (fun j:Nat=>50 - j) (fun j ρ s=>RoI st y n sid rid c (fun i=>mstC (runM P (startM l) i)) (rowsF RR) ρ s∧(∃ ys,FlI n rid tb mid none RR j s ys)∧j≤50∧ρ q22=iv j∧ρ q21=.sc (.ptr tb 0))
  ⟨0,I,⟨_,FL⟩,by omega,e22,e21⟩ fun j ρ s0 hk hI=>?_)
 clear e22 e21 I FL hk
 obtain ⟨I,⟨ys,FL⟩,hj,e22,e21⟩:=hI
 refine Ru.seq (Ru.rs fun P' hP=>?_)
 simp -implicitDefEqProofs (disch:=first|decide|omega) [e22]
 refine Rg.ret (hP _ _ ?_)
 clear hP P'
 refine Ru.cond rfl (fun h=>Ru.skip ?_) fun h=>Ru.exit ?_
 ·simp at h
  replace h:j<50:=by omega
  simp only [Then,Out]
  refine Ru.seq (Ru.block (Ru.rs fun P' hP=>?_))
  simp -implicitDefEqProofs (disch:=first|decide|omega)
  refine Rg.ret (hP _ _ ?_)
  clear hP P'
  have hs0r:rid<s0.next:=I.T12.lt
  refine Ru.at (fun ρ'=>RoI st y n sid rid c (fun i=>mstC (runM P (startM l) i)) (rowsF RR) ρ' s0∧ρ' q22=iv j∧ρ' q21=.sc (.ptr tb 0)∧ρ' q23=iv (0:Nat)) ⟨I.env rfl rfl rfl rfl rfl,e22,e21,rfl⟩ fun ρ8 hE=>?_
  clear I e22 e21
  obtain ⟨I,e22,e21,e23⟩:=hE
  refine Ru.block (Ru.lp [] (fun i:Nat=>n - i) (fun i ρ s=>RoI st y n sid rid c (fun i=>mstC (runM P (startM l) i)) (rowsF RR) ρ s∧(∃ y',FlR n rid tb mid none RR j i s0 s ys y')∧i≤n∧ρ q23=iv i∧ρ q22=iv j∧ρ q21=.sc (.ptr tb 0))
   ⟨0,I,⟨_,FL.start h⟩,by omega,e23,e22,e21⟩ fun i ρ' s1 hk hI=>?_)
  clear I e22 e21 e23 hk
  obtain ⟨I,⟨y',FR⟩,hi,e23,e22,e21⟩:=hI
  refine Ru.seq (Ru.rs fun P' hP=>?_)
  simp -implicitDefEqProofs (disch:=first|decide|omega) [I.e9,e23]
  refine Rg.ret (hP _ _ ?_)
  clear hP P'
  refine Ru.cond rfl (fun h2=>Ru.skip ?_) fun h2=>Ru.exit ?_
  ·simp at h2
   replace h2:i<n:=by omega
   simp only [Then,Out]
   refine Ru.seq (Ru.block (Ru.d1 fun P' hP=>?_))
   refine FL.reg FR I.fr hw (by omega) h hw1 hl1 h2 (by omega) (qt:=q21) (qr:=q12) (qj:=q22) (qi:=q23) e21 I.e12 e22 e23 fun y2 s2 f2 k2 FR2=>?_
   refine hP _ _ ?_
   clear hP P'
   refine Ru.r1 fun P' hP=>?_
   simp -implicitDefEqProofs (disch:=first|decide|omega) [e23]
   refine Rg.ret (hP _ _ ?_)
   clear hP P'
   exact ⟨(fun q hq=>by cases hq),i+1,by omega,(I.old f2 k2 hs0r hrm).env rfl rfl rfl rfl rfl,⟨_,FR2⟩,by omega,rfl,e22,e21⟩
  simp at h2
  have hin:n=i:=by omega
  subst hin
  simp only [Then,Out,if_true]
  refine Ru.r1 fun P' hP=>?_
  simp -implicitDefEqProofs (disch:=first|decide|omega) [e22]
  refine Rg.ret (hP _ _ ?_)
  clear hP P'
  exact ⟨(fun q hq=>by cases hq),j+1,by omega,I.env rfl rfl rfl rfl rfl,⟨_,FL.step h I.fr.wf FR.old FR.bM FR.sat FR.grw⟩,by omega,rfl,e21⟩
 simp at h
 have hj50:j=50:=by omega
 subst hj50
 simp only [Then,Out,if_true]
 have hm1:st.next+1<mid:=by have:=I.l10;have:=I.l12;omega
 have PU:=PuI.start (l ++ gl.r) FL I.fr hm1 I.b6
 have hpl:(l ++ gl.r).length=8:=by rw [List.length_append,hl,hGl.ok.1]
 have hs0r:rid<s0.next:=I.T12.lt
 obtain ⟨p0,ep0⟩:∃ p0,p0=s0.next:=⟨_,rfl⟩
 rw [← ep0] at PU hs0r
 have hpb:∀ k,k<8→(l ++ gl.r)[k]?=some (get2 RR (k / 4 * (n - 1)) (1+k % 4)):=fun k hk=>by
  rw [hlow2 _ _ (by rcases (show k / 4=0∨k / 4=1 by omega) with e | e <;> rw [e] <;> omega) (by omega)]
  by_cases h4:k<4
  ·rw [show k / 4=0 by omega,Nat.zero_mul,show k % 4=k by omega,List.getElem?_append_left (by omega),List.getD_eq_getElem?_getD]
   show l[k]?=some (l[k]?.getD 0)
   rw [List.getElem?_eq_getElem (by omega)];rfl
  ·rw [show k / 4=1 by omega,Nat.one_mul,show k % 4=k - 4 by omega,List.getElem?_append_right (by omega),← egl,List.getD_eq_getElem?_getD,hl,List.getElem?_eq_getElem (by rw [hGl.ok.1];omega)];rfl
 refine Ru.seq (Ru.rs fun P' hP=>?_)
 simp -implicitDefEqProofs (disch:=first|decide|omega)
 refine Rg.ret (hP _ _ ?_)
 clear hP P'
 refine Ru.at (fun ρ=>RoI st y n sid rid c (fun i=>mstC (runM P (startM l) i)) (rowsF RR) ρ s0∧ρ q21=.sc (.ptr tb 0)∧ρ q24=iv (0:Nat)) ⟨I.env rfl rfl rfl rfl rfl,e21,rfl⟩ fun ρ9 hE=>?_
 clear I e21 e22 FL h hj
 obtain ⟨I,e21,e24⟩:=hE
 refine Ru.block (Ru.lp [] (fun k:Nat=>8 - k) (fun k ρ s=>RoI st y n sid rid c (fun i=>mstC (runM P (startM l) i)) (rowsF RR) ρ s∧(∃ yp,PuI st n tb mid p0 RR (l ++ gl.r) ys k s yp)∧k≤8∧ρ q24=iv k∧ρ q21=.sc (.ptr tb 0))
  ⟨0,I,⟨_,PU⟩,by omega,e24,e21⟩ fun k ρ s hk hI=>?_)
 clear I e21 e24 PU ep0 s0
 obtain ⟨I,⟨yp,PU⟩,hk8,e24,e21⟩:=hI
 refine Ru.seq (Ru.rs fun P' hP=>?_)
 simp -implicitDefEqProofs (disch:=first|decide|omega) [e24]
 refine Rg.ret (hP _ _ ?_)
 clear hP P'
 refine Ru.cond rfl (fun h=>Ru.skip ?_) fun h=>Ru.exit ?_
 rotate_left
 ·simp at h
  have:k=8:=by omega
  subst this
  simp only [Then,Out,if_true]
  exact PU.fin hw hpl I.e6 e21 fun ρ s hr=>hQ _ _ (by
   obtain ⟨v,hv1,hv2⟩:=hr
   exact ⟨v,hcp2 v s hv1,hv2⟩)
 simp at h
 replace h:k<8:=by omega
 simp only [Then,Out]
 have hx:=hpb k h
 obtain ⟨b,eb⟩:∃ b,b=k / 4 * (n - 1):=⟨_,rfl⟩
 have hbn:b<n:=by rcases (show k / 4=0∨k / 4=1 by omega) with e | e <;> rw [eb,e] <;> omega
 have hk4:1+k % 4<50:=by omega
 have rx:=I.T12.rows hw1 hl1 hbn (j:=1+k % 4) hk4
 rw [← eb] at hx
 have hquo:∀ K:V→R,binK .quo (iv k) (iv 4) K=K (iv ((k:Int) / 4)):=fun K=>iquo0 k 4 K (by decide) (by omega)
 have hmul:∀ K:V→R,binK .mul (iv ((k:Int) / 4)) (iv ((n - 1:Nat):Int)) K=K (iv (b:Int)):=fun K=>by
  have e:((k:Int) / 4) * ((n - 1:Nat):Int)=(b:Int):=by rw [eb];rw [Int.natCast_mul];rfl
  rw [imul0 _ _ K (by omega) (by omega),e]
 have e1k:((1:Int)+(k:Int) % 4).toNat=1+k % 4:=by omega
 generalize get2 RR b (1+k % 4)=x at *
 have f1:Fr s (new s [us x]):=(Fr.refl I.fr.wf).new _
 have hS:Sat (new s [us x]) (.slice s.next 0 1 (some 1) 1) 1 1 [us x]:=Sat.new rfl fun m h=>by cases h;decide
 have hf1:∀ tm (K:List S→R),fillK tm K [(0,1,.c (uv x))] [us 0]=K [us x]:=fun tm K=>by
  rw [fill_sc tm K _ 0 (us x) _ (by decide),fill_nil];rfl
 have hnx:(new s [us x]).next=s.next+1:=rfl
 obtain ⟨y2,s2,ss',hA,hs2,hg2,k2,_⟩:=app_dw (b:=8) (n0:=s.next) (bit:=32768) (pre:=32767) (al:=16384) (lm:=8194) (sm:=0) (hv:=0) (ll:=[⟨8192,rid,re1 (.sc (.ptr rid (b * 50+(1+k % 4)))) (.sc (us x))⟩,⟨2,tb,re1 (.sc (.ptr tb 0)) (.sc yp)⟩]) (ss:=[])
  f1.wf (PU.sp.fr f1) (PU.gp.fr f1) (by rw [hnx];have:=PU.ls;omega) hS (by omega) (by omega) (by decide) (by decide) (by decide) (by decide)
 have k2':Kp (Ev.sid yp) s s2:=(f1.kp _).trans k2
 have f2:Fr st s2:=k2'.fr PU.fr (fun id he=>by have:=PU.gp.sid id he;have:=PU.l0;have:=PU.lt;have:=PU.l1;omega) hw
 have PU2:=PU.push hw hx f2 hs2 hg2 k2'
 have bT2:Bx s2 tb [yp,.slice mid 0 50 (some 50) 1]:=PU.bT.kp k2' fun he=>by have:=PU.gp.sid tb he;have:=PU.l0;omega
 have hl0:=PU.l0
 have hlt2:=PU.lt
 have I2:RoI st y n sid rid c (fun i=>mstC (runM P (startM l) i)) (rowsF RR) ρ (wr s2 tb 0 [y2]):=by
  have q1:=I.l10;have q2:=I.l12
  have ne:∀ id,id<p0→Ev.sid yp≠some id:=fun id hid he=>by have:=PU.gp.sid id he;omega
  have k3:=bT2.kpw f2.wf (i:=0) [y2]
  exact ⟨k3.fr f2 (fun id h=>by cases h;omega) hw,I.e0,I.e6,I.e9,I.e10,I.e12,I.l10,I.l12,(I.b6.kp k2' (ne _ (by omega))).kp k3 (ne_some (by omega)),(I.T10.kp k2' (ne _ (by omega))).kp k3 (ne_some (by omega)),(I.T12.kp k2' (ne _ hs0r)).kp k3 (ne_some (by omega))⟩
 refine Ru.seq (Ru.block (Ru.d1 fun P' hP=>?_))
 simp -implicitDefEqProofs (disch:=first|decide|omega | (apply okS_t;decide;(simp (decide:=true) <;> omega))) [I.e9,I.e12,e21,e24,PU.bT.rd 0 _ rfl,hquo,en1,hmul,irem0,I.T12.ix hbn,e1k,rx,buildS_eq,hf1,hA,dS_ok (off:=0) bT2.own (show 0+1≤2 by decide)]
 refine Rg.ret (hP _ _ ?_)
 clear hP P'
 refine Ru.r1 fun P' hP=>?_
 simp -implicitDefEqProofs (disch:=first|decide|omega) [e24]
 refine Rg.ret (hP _ _ ?_)
 clear hP P'
 exact ⟨(fun q hq=>by cases hq),k+1,by omega,I2.env rfl rfl rfl rfl rfl,⟨_,PU2⟩,by omega,rfl,e21⟩
end
section
variable {st s t u:St}{n i id off a mid:Nat}
theorem cut_ok (hw:WfS st) {y:S}{P:List InsD} (hp:RepP st y P) (hlen:P.length<9223372036854775808):Ca (cF F) 4 [.sc y] st (fun v s=>Fr st s∧∃ y',v=.sc y'∧RepP s y' (P.take 40)):=by
 refine Ca.of (hf:=cf4) rfl rfl [q0] [.tmp q2] rfl rfl rfl fun Q hQ=>?_
 refine Ru.rs fun P' hP=>?_
 refine Rg.ret (hP _ _ ?_)
 clear hP P'
 refine Ru.rs fun P' hP=>?_
 refine Rg.ret (hP _ _ ?_)
 clear hP P'
 obtain ⟨v6,hcut,hsv,hsat6⟩:=sliceS_sat (show Sat st y P.length 4 (P.flatMap insC) from hp) none (some (min P.length 40)) (by simp) (by simp;omega)
 simp only [Option.getD_none,Option.getD_some,Nat.sub_zero,Nat.zero_mul,List.drop_zero,loOf] at hsat6 hcut
 have e:(P.flatMap insC).take (min P.length 40 * 4)=(P.take 40).flatMap insC:=by
  have key:∀ (k:Nat) (P:List InsD),(P.flatMap insC).take (k * 4)=(P.take k).flatMap insC:=by
   intro k
   induction k with
   | zero=>intro P;simp
   | succ k ih =>
    intro P
    cases P with
    | nil=>simp
    | cons g P =>
     rw [List.flatMap_cons,List.take_succ_cons,List.flatMap_cons,show (k+1) * 4=4+k * 4 by omega,List.take_append,show (insC g).length=4 from rfl,Nat.add_sub_cancel_left,ih,List.take_of_length_le (by show 4≤_;omega)]
  rw [key,show P.take (min P.length 40)=P.take 40 by rw [List.take_eq_take_min (i:=40),Nat.min_comm]]
 rw [e] at hsat6
 obtain ⟨y2,s2,hA,h2,_,h4,_⟩:=app_any (b:=4) (a:=st.next) hw (Sat.nil (st:=st) 4) (Grw.nil st.next 4) (Nat.le_refl _) hsat6.1 (by omega) (by omega)
 have hmin:∀ (c:CallK) (r:Ev) (K:V→St→R),h_op4_minmax false [(.c (iv P.length)),(.c (iv 40))] c r st K=K (iv (min P.length 40:Nat)) st:=fun c r K=>by
  rw [imin2,show min ((P.length:Nat):Int) 40=((min P.length 40:Nat):Int) by omega]
 refine Ru.rs fun P' hP=>?_
 have hxa:=fun (c:CallK) (r:Ev) (K:V→St→R)=>(xA_sat (x:=.nils) (b:=4) (c:=c) (r:=r) (K:=K) hsat6).trans (hA K)
 simp -implicitDefEqProofs (disch:=first|decide|omega) [lnS_sat hp,hmin,hcut,hxa]
 refine Rg.ret (hP _ _ ?_)
 clear hP P'
 refine Ru.ret (hQ _ _ (.one rfl ⟨h4.fr (Fr.refl hw) (fun id h=>by cases h) hw,y2,rfl, ?_⟩))
 unfold RepP
 rw [Nat.zero_add,List.nil_append] at h2
 rw [List.length_take,Nat.min_comm];exact h2
theorem few_ok (hw:WfS st) (r:Int):Ca (cF F) 5 [iv r] st (fun v s=>s=st∧∃ r',v=iv r'∧(r'≤7∨13<r')):=by
 refine Ca.of (hf:=cf5) rfl rfl [q0] [.tmp q2] rfl rfl rfl fun Q hQ=>?_
 refine Ru.rs fun P' hP=>?_
 simp -implicitDefEqProofs (disch:=first|decide|omega)
 refine Rg.ret (hP _ _ ?_)
 clear hP P'
 refine Ru.seq (Ru.rs fun P' hP=>?_)
 simp -implicitDefEqProofs +contextual (disch:=first|decide|omega) [-Bool.not_or,-Bool.not_and]
 refine Rg.ret (hP _ _ ?_)
 clear hP P'
 refine Ru.cond rfl (fun h=>?_) fun h=>Ru.skip ?_
 ·simp at h
  refine Ru.rs fun P' hP=>?_
  simp -implicitDefEqProofs (disch:=first|decide|omega) [irem0]
  refine Rg.ret (hP _ _ ?_)
  clear hP P'
  exact Ru.ret (hQ _ _ (.one rfl ⟨rfl,_,rfl,by omega⟩))
 ·simp at h
  simp only [Then]
  refine Ru.rs fun P' hP=>?_
  simp -implicitDefEqProofs (disch:=first|decide|omega)
  refine Rg.ret (hP _ _ ?_)
  clear hP P'
  refine Ru.ret (hQ _ _ (.one rfl ⟨rfl,_,rfl, ?_⟩))
  omega
theorem equal_ok (hw:WfS st) {a b:S}{L:List Nat} (ha:Sat st a L.length 1 (L.map us)) (hb:Sat st b L.length 1 (L.map us)) (hL:L.length<1000):Ca (cF F) 9 [.sc a,.sc b] st (fun v s=>s=st∧v=bl true):=by
 refine Ca.of (hf:=cf9) rfl rfl [q0,q1] [.tmp q4] rfl rfl rfl fun Q hQ=>?_
 refine Ru.rs fun P' hP=>?_
 simp -implicitDefEqProofs (disch:=first|decide|omega)
 refine Rg.ret (hP _ _ ?_)
 clear hP P'
 refine Ru.seq (Ru.rs fun P' hP=>?_)
 simp -implicitDefEqProofs (disch:=first|decide|omega) [lnS_sat ha,lnS_sat hb]
 refine Rg.ret (hP _ _ ?_)
 clear hP P'
 refine Ru.cond rfl (fun h=>by simp at h) fun h=>Ru.skip ?_
 simp only [Then]
 refine Ru.seq (Ru.rs fun P' hP=>?_)
 simp -implicitDefEqProofs (disch:=first|decide|omega)
 refine Rg.ret (hP _ _ ?_)
 clear hP P'
 refine Ru.at (fun ρ=>ρ q0=.sc a∧ρ q1=.sc b∧ρ q5=iv (0:Nat)) ⟨rfl,rfl,rfl⟩ fun ρ0 hE=>?_
 obtain ⟨e0,e1,e5⟩:=hE
 refine Ru.block (Ru.lp [q0,q1] (fun j:Nat=>L.length - j) (fun i ρ s=>s=st∧i≤L.length∧ρ q5=iv i) ⟨0,rfl,by omega,e5⟩ fun i ρ s hk hI=>?_)
 clear e5
 obtain ⟨rfl,hi,e5⟩:=hI
 refine Ru.seq (Ru.rs fun P' hP=>?_)
 simp -implicitDefEqProofs (disch:=first|decide|omega) [hk.e,e0,e5,lnS_sat ha]
 refine Rg.ret (hP _ _ ?_)
 clear hP P'
 refine Ru.cond rfl (fun h=>Ru.skip ?_) fun h=>Ru.exit ?_
 rotate_left
 ·simp only [Then,Out,if_true]
  refine Ru.rs fun P' hP=>?_
  simp -implicitDefEqProofs (disch:=first|decide|omega)
  refine Rg.ret (hP _ _ ?_)
  clear hP P'
  exact Ru.ret (hQ _ _ (.one rfl ⟨rfl,rfl⟩))
 simp at h
 replace h:i<L.length:=by omega
 simp only [Then,Out]
 obtain ⟨ia,oa,ca,rfl,ra⟩:=ha.rd (by omega)
 obtain ⟨ib,ob,cb,rfl,rb⟩:=hb.rd (by omega)
 have ra':=ra i (us L[i]) (by simp [h])
 have rb':=rb i (us L[i]) (by simp [h])
 refine Ru.seq (Ru.block (Ru.ds fun P' hP=>?_))
 simp -implicitDefEqProofs (disch:=first|decide|omega) [hk.e,e0,e1,e5,ra',rb']
 refine Rg.ret (hP _ _ ?_)
 clear hP P'
 refine Ru.cond rfl (fun h=>by simp at h) fun h=>Ru.skip ?_
 refine Ru.r1 fun P' hP=>?_
 simp -implicitDefEqProofs (disch:=first|decide|omega) [e5]
 refine Rg.ret (hP _ _ ?_)
 clear hP P'
 exact ⟨by repeat first | exact hk | refine Keep.up (by rfl) ?_,i+1,by omega,rfl,by omega,rfl⟩
theorem columns_ok (hw:WfS st) {a b:S}{ya yb:List S}{m:Nat}{L:Nat→List Nat} (ha:Sat st a m 1 ya) (hb:Sat st b m 1 yb)
  (hc:∀ j,j<m→(∃ y,ya[j]?=some y∧Sat st y (L j).length 1 ((L j).map us))∧∃ y,yb[j]?=some y∧Sat st y (L j).length 1 ((L j).map us)) (hm:m<100) (hL:∀ j,(L j).length<1000) :
  Ca (cF F) 8 [.sc a,.sc b] st (fun v s=>Fr st s∧v=bl true):=by
 refine Ca.of (hf:=cf8) rfl rfl [q0,q1] [.tmp q4] rfl rfl rfl fun Q hQ=>?_
 refine Ru.rs fun P' hP=>?_
 simp -implicitDefEqProofs (disch:=first|decide|omega)
 refine Rg.ret (hP _ _ ?_)
 clear hP P'
 refine Ru.seq (Ru.rs fun P' hP=>?_)
 simp -implicitDefEqProofs (disch:=first|decide|omega) [lnS_sat ha,lnS_sat hb]
 refine Rg.ret (hP _ _ ?_)
 clear hP P'
 refine Ru.cond rfl (fun h=>by simp at h) fun h=>Ru.skip ?_
 simp only [Then]
 refine Ru.seq (Ru.rs fun P' hP=>?_)
 simp -implicitDefEqProofs (disch:=first|decide|omega)
 refine Rg.ret (hP _ _ ?_)
 clear hP P'
 refine Ru.at (fun ρ=>ρ q0=.sc a∧ρ q1=.sc b∧ρ q5=iv (0:Nat)) ⟨rfl,rfl,rfl⟩ fun ρ0 hE=>?_
 obtain ⟨e0,e1,e5⟩:=hE
 refine Ru.block (Ru.lp [q0,q1] (fun j:Nat=>m - j) (fun i ρ s=>Fr st s∧i≤m∧ρ q5=iv i) ⟨0,Fr.refl hw,by omega,e5⟩ fun i ρ s hk hI=>?_)
 clear e5
 obtain ⟨hf,hi,e5⟩:=hI
 refine Ru.seq (Ru.rs fun P' hP=>?_)
 simp -implicitDefEqProofs (disch:=first|decide|omega) [hk.e,e0,e5,lnS_sat ha]
 refine Rg.ret (hP _ _ ?_)
 clear hP P'
 refine Ru.cond rfl (fun h=>Ru.skip ?_) fun h=>Ru.exit ?_
 rotate_left
 ·simp only [Then,Out,if_true]
  refine Ru.rs fun P' hP=>?_
  simp -implicitDefEqProofs (disch:=first|decide|omega)
  refine Rg.ret (hP _ _ ?_)
  clear hP P'
  exact Ru.ret (hQ _ _ (.one rfl ⟨hf,rfl⟩))
 simp at h
 replace h:i<m:=by omega
 simp only [Then,Out]
 obtain ⟨⟨y1,e1a,s1⟩,y2,e2a,s2⟩:=hc i h
 obtain ⟨ia,oa,ca,rfl,ra⟩:=ha.rd (by omega)
 obtain ⟨ib,ob,cb,rfl,rb⟩:=hb.rd (by omega)
 have ra':=hf.rd (ra i y1 e1a)
 have rb':=hf.rd (rb i y2 e2a)
 refine Ru.seq (Ru.block (Ru.ds fun P' hP=>?_))
 simp -implicitDefEqProofs (disch:=first|decide|omega) [hk.e,e0,e1,e5,ra',rb']
 refine Rg.dc (fun v=>v=bl true) hf.wf (by decide) (by decide) ((equal_ok (wf_setLow (h:=hf.wf)) (sat_low (s1.fr hf)) (sat_low (s2.fr hf)) (hL i)).imp fun v s h=>by obtain ⟨rfl,h2⟩:=h;exact ⟨Fr.refl (wf_setLow (h:=hf.wf)),h2⟩) fun v s5 f5 hv=>?_
 subst hv
 simp -implicitDefEqProofs (disch:=first|decide|omega)
 refine Rg.ret (hP _ _ ?_)
 clear hP P'
 refine Ru.cond rfl (fun h=>by simp at h) fun h=>Ru.skip ?_
 refine Ru.r1 fun P' hP=>?_
 simp -implicitDefEqProofs (disch:=first|decide|omega) [e5]
 refine Rg.ret (hP _ _ ?_)
 clear hP P'
 exact ⟨by repeat first | exact hk | refine Keep.up (by rfl) ?_,i+1,by omega,hf.trans f5,by omega,rfl⟩
theorem lives_ok (hh:holdsAll st.heap l0=true):Ca (cO l0 O0 F) 10 [] st (fun v s=>v=bl true∧s=st):=Ca.known rfl hh
structure Both (s:St) (v w:V):Prop where
 ex:∃ (e:Nat) (yp ym zp zm:S) (ya yb:List S) (m k:Nat) (L:Nat→List Nat) (pub:List Nat),v=.tup [(true,[yp,ym]),(false,[is e])]∧w=.tup [(true,[zp,zm]),(false,[is e])]∧Sat s ym m 1 ya∧Sat s zm m 1 yb ∧
  (∀ j,j<m→(∃ y,ya[j]?=some y∧Sat s y (L j).length 1 ((L j).map us))∧∃ y,yb[j]?=some y∧Sat s y (L j).length 1 ((L j).map us))∧m<100∧Sat s yp pub.length 1 (pub.map us)∧Sat s zp pub.length 1 (pub.map us)∧(∀ j,(L j).length<1000)∧pub.length<1000
theorem both_err {s0 s1:St}{e:Nat}{v w:V} (h:errP s0 e v s) (k:errP s1 e w t):Both u v w :=
 ⟨e,.nils,.nils,.nils,.nils,[],[],0,0,fun _=>[],[],h.2,k.2,Sat.nil 1,Sat.nil 1,fun j hj=>by omega,by decide,Sat.nil 1,Sat.nil 1,fun _=>by simp,by simp⟩
theorem both_of {s0 s1:St}{P:List InsD}{l:List Nat}{r:Int}{v w:V} (h:ColP s0 P l r v s) (k:ColP s1 P l r w t) (hf:Fr s t) (hok:OkP P) (hl:l.length=4) (hl8:∀ x∈l,x<256) (hr:r≤7∨13<r):Both t v w:=by
 unfold ColP at h k
 by_cases h1:boundsV P r≠0
 ·rw [if_pos h1] at h k;exact both_err h k
 rw [if_neg h1] at h k
 obtain ⟨hv,q1,q2,_⟩:=bounds0 (by omega:boundsV P r=0)
 have hrl:(lastM P (startM l) (2 ^ r.toNat)).r.length=4:=(runM_ok hv hok (start_okR hl hl8) _).ok.1
 have hn128:2 ^ r.toNat≤128:=by
  have:=Nat.pow_le_pow_right (n:=2) (by decide) (show r.toNat≤7 by omega)
  simpa using this
 by_cases h2:(fetchV P (lastM P (startM l) (2 ^ r.toNat)).pc).o≠0
 ·rw [if_pos h2] at h k;exact both_err h k
 rw [if_neg h2] at h k
 obtain ⟨_,yp,ym,ya,rfl,a1,a2,a3,a4⟩:=h
 obtain ⟨_,zp,zm,yb,rfl,b1,b2,b3,b4⟩:=k
 have hp:(l ++ (lastM P (startM l) (2 ^ r.toNat)).r).length=8:=by rw [List.length_append,hl,hrl]
 have hcl:∀ (R0:List Row) (n j:Nat),colV R0 n j=((List.range n).map fun i=>get2 R0 i j).map us:=fun R0 n j=>by unfold colV;rw [List.map_map];rfl
 refine ⟨0,yp,ym,zp,zm,ya,yb,50,0,fun j=>(List.range (2 ^ r.toNat)).map fun i=>get2 (fullV P (startM l) (2 ^ r.toNat)) i j,l ++ (lastM P (startM l) (2 ^ r.toNat)).r,rfl,rfl,a2.fr hf,b2,fun j hj=>?_,by decide, ?_, ?_,fun j=>by rw [List.length_map,List.length_range];omega,by rw [hp];decide⟩
 ·obtain ⟨y1,c1,c2⟩:=a4 j hj
  obtain ⟨y2,d1,d2⟩:=b4 j hj
  rw [hcl] at c2 d2
  rw [List.length_map,List.length_range]
  exact ⟨⟨y1,c1,c2.fr hf⟩,y2,d1,d2⟩
 ·rw [hp];exact a1.fr hf
 ·rw [hp];exact b1
theorem ColP.shape {P:List InsD}{l:List Nat}{r:Int}{v:V} (h:ColP st P l r v s):Fr st s∧∃ p m e,v=.tup [(true,[p,m]),(false,[is e])]:=by
 unfold ColP at h
 by_cases h1:boundsV P r≠0
 ·rw [if_pos h1] at h;exact ⟨h.1,_,_,_,h.2⟩
 rw [if_neg h1] at h
 by_cases h2:(fetchV P (lastM P (startM l) (2 ^ r.toNat)).pc).o≠0
 ·rw [if_pos h2] at h;exact ⟨h.1,_,_,_,h.2⟩
 rw [if_neg h2] at h
 obtain ⟨h3,_,_,_,h4,_⟩:=h
 exact ⟨h3,_,_,_,h4⟩
theorem law_ok (hw:WfS st) (hh:holdsAll st.heap l0=true) {y:S}{P:List InsD} (hp:RepP st y P) (hok:OkP P) (hlen:P.length<9223372036854775808) {l:List Nat} (hl:l.length=4) (hl8:∀ x∈l,x<256) (r:Int)
  (Q:X→Ev→St→Prop) (hQ:∀ ρ s',ρ q6=bl true→Q .ret ρ s') :
  Ru (cO l0 O0 F) cf3.body (updE [q0,q1,q2] [.sc y,.agg (l.map bs),iv r] ev0) st Q:=by
 have f1:Fr st (new st (l.map bs)):=(Fr.refl hw).new _
 have b1:Bx (new st (l.map bs)) st.next (l.map bs):=Bx.new
 refine Ru.rs fun P' hP=>?_
 simp -implicitDefEqProofs (disch:=first|decide|omega)
 refine Rg.ret (hP _ _ ?_)
 clear hP P'
 generalize new st (l.map bs)=s1 at *
 refine Ru.rs fun P' hP=>?_
 refine Rg.call (Ca.none rfl (cut_ok f1.wf (hp.fr f1) hlen)) fun v s2 h2=>?_
 obtain ⟨f2,y',rfl,hp2⟩:=h2
 simp -implicitDefEqProofs (disch:=first|decide|omega)
 refine Rg.call (Ca.none rfl (few_ok f2.wf r)) fun v s3 h3=>?_
 obtain ⟨rfl,r',rfl,hr'⟩:=h3
 refine Rg.ret (hP _ _ ?_)
 clear hP P'
 have hok2:OkP (P.take 40):=fun g hg=>hok g (List.mem_of_mem_take hg)
 generalize P.take 40=P2 at *
 have b2:=b1.fr f2
 have f12:=f1.trans f2
 refine Ru.rs fun P' hP=>?_
 simp -implicitDefEqProofs (disch:=first|decide|omega) [b2.N (n:=4) (by simp [hl])]
 refine Rg.call (Ca.none rfl (cols_ok f12.wf (holdsAll_fr f12 hh) hp2 hok2 hl hl8 hr')) fun v s4 h4=>?_
 obtain ⟨f4,p4,m4,x4,hv4⟩:=h4.shape
 have hst:∀ K:St→R,Ev.sto (new s4 [zn,zn]) 2 (.sc (.ptr s4.next 0)) (.agg [p4,m4]) K=K (wr (new s4 [zn,zn]) s4.next 0 [p4,m4]):=fun K=>(Bx.new (s:=s4) (l:=[zn,zn])).stoN (l':=[p4,m4]) (n:=2) rfl rfl K
 subst hv4
 simp -implicitDefEqProofs (disch:=first|decide|omega) [hst]
 refine Rg.ret (hP _ _ ?_)
 clear hP P'
 have f5:=fr_mk f4.wf [zn,zn] [p4,m4]
 have b5:Bx (wr (new s4 [zn,zn]) s4.next 0 [p4,m4]) s4.next [p4,m4]:=Bx.mk' rfl
 generalize wr (new s4 [zn,zn]) s4.next 0 [p4,m4]=s5 at *
 generalize s4.next=i7 at *
 clear hst
 have f35:=f4.trans f5
 have b3:=b2.fr f35
 refine Ru.rs fun P' hP=>?_
 simp -implicitDefEqProofs (disch:=first|decide|omega) [b3.N (n:=4) (by simp [hl])]
 refine Rg.call (Ca.none rfl (rcols_ok f5.wf (hp2.fr f35) hok2 hl hl8 hr')) fun v s6 h6=>?_
 obtain ⟨f6,p6,m6,x6,hv6⟩:=h6.shape
 have hB:=both_of h4 h6 (f5.trans f6) hok2 hl hl8 hr'
 subst hv6
 have hst:∀ K:St→R,Ev.sto (new s6 [zn,zn]) 2 (.sc (.ptr s6.next 0)) (.agg [p6,m6]) K=K (wr (new s6 [zn,zn]) s6.next 0 [p6,m6]):=fun K=>(Bx.new (s:=s6) (l:=[zn,zn])).stoN (l':=[p6,m6]) (n:=2) rfl rfl K
 simp -implicitDefEqProofs (disch:=first|decide|omega) [hst]
 refine Rg.ret (hP _ _ ?_)
 clear hP P'
 have f7:=fr_mk f6.wf [zn,zn] [p6,m6]
 have b7:Bx (wr (new s6 [zn,zn]) s6.next 0 [p6,m6]) s6.next [p6,m6]:=Bx.mk' rfl
 generalize wr (new s6 [zn,zn]) s6.next 0 [p6,m6]=s7 at *
 generalize s6.next=i9 at *
 clear hst
 have b57:=(b5.fr f6).fr f7
 obtain ⟨e,yp,ym,zp,zm,ya,yb,m,k,L,pub,h1,h2,h3,h4',h5,h6',h7,h8,h9,h10⟩:=hB.ex
 simp only [V.tup.injEq,List.cons.injEq,Prod.mk.injEq,and_true,true_and] at h1 h2
 obtain ⟨⟨rfl,rfl⟩,h1⟩:=h1
 obtain ⟨⟨rfl,rfl⟩,h2⟩:=h2
 have hxx:x4=x6:=by
  have h12:S.int .i64 x4=S.int .i64 x6:=h1.trans h2.symm
  injection h12
 subst hxx
 refine Ru.rs fun P' hP=>?_
 simp -implicitDefEqProofs (disch:=first|decide|omega) [b57.rd 1 _ rfl,b7.rd 1 _ rfl]
 refine Rg.call (Ca.none rfl (columns_ok f7.wf (h3.fr f7) (h4'.fr f7) (fun j hj=>by
  obtain ⟨⟨y1,c1,c2⟩,y2,d1,d2⟩:=h5 j hj
  exact ⟨⟨y1,c1,c2.fr f7⟩,y2,d1,d2.fr f7⟩) h6' h9)) fun v s8 hv8=>?_
 obtain ⟨f8,rfl⟩:=hv8
 simp -implicitDefEqProofs (disch:=first|decide|omega) [(b57.fr f8).rd 0 _ rfl,(b7.fr f8).rd 0 _ rfl]
 refine Rg.call (Ca.none rfl (equal_ok f8.wf ((h7.fr f7).fr f8) ((h8.fr f7).fr f8) h10)) fun v s9 hv9=>?_
 obtain ⟨rfl,rfl⟩:=hv9
 have f9:Fr st s9:=((((f12.trans f35).trans f6).trans f7).trans f8)
 refine Rg.call (lives_ok (holdsAll_fr f9 hh)) fun v s10 hv10=>?_
 obtain ⟨rfl,rfl⟩:=hv10
 simp -implicitDefEqProofs (disch:=first|decide|omega)
 exact Rg.ret (hP _ _ (Ru.ret (hQ _ _ rfl)))
end
section
open Go.RowKit Go.Proofs Go.ChangeShapes Go.WideShapes
abbrev insTy:Ty:=.pair .u8 (.pair .u8 (.pair .u8 (.pair .u8 .unit)))
theorem ty22:tyOf Tryz.prog 9 22=some (.slice insTy):=by kernel_rfl
theorem ty23:tyOf Tryz.prog 9 23=some (arrTy .u8 4):=by kernel_rfl
theorem ty3:tyOf Tryz.prog 9 3=some .i64:=by kernel_rfl
theorem ins_of {st:St}{l:List S}{y:(Ty.slice insTy).den} (h:RepTy (.slice insTy) st l y):∃ s P,l=[s]∧RepP st s P∧OkP P∧P.length<9223372036854775808:=by
 have h:SlRep 4 (RepTy insTy) st l y:=h
 obtain ⟨s,bs,rfl,e1,e2,e3,e4⟩:=h.conv (f:=insC) (G:=fun g=>g.o<256∧g.a<256∧g.b<256∧g.m<256) (by decide) fun le y _ h=>by
  obtain ⟨a,b,c,d,u⟩:=y
  obtain ⟨l0,l1,rfl,h0,l2,l3,rfl,h1,l4,l5,rfl,h2,l6,l7,rfl,h3,h4⟩:=h
  obtain ⟨rfl,k0⟩:=(show Ru8 l0 a from h0)
  obtain ⟨rfl,k1⟩:=(show Ru8 l2 b from h1)
  obtain ⟨rfl,k2⟩:=(show Ru8 l4 c from h2)
  obtain ⟨rfl,k3⟩:=(show Ru8 l6 d from h3)
  have h4:l7=[]:=h4
  subst h4
  exact ⟨⟨a,b,c,d⟩,rfl,k0,k1,k2,k3⟩
 exact ⟨s,bs,rfl,e3,e4,Nat.lt_of_le_of_lt e2 (by decide)⟩
theorem bytes_of {st:St}{l:List S}{y:(arrTy .u8 4).den} (h:RepTy (arrTy .u8 4) st l y):∃ b:List Nat,l=b.map bs∧b.length=4∧∀ x∈b,x<256:=by
 obtain ⟨a,b,c,d,u⟩:=y
 obtain ⟨l0,l1,rfl,h0,l2,l3,rfl,h1,l4,l5,rfl,h2,l6,l7,rfl,h3,h4⟩:=h
 obtain ⟨rfl,k0⟩:=(show Ru8 l0 a from h0)
 obtain ⟨rfl,k1⟩:=(show Ru8 l2 b from h1)
 obtain ⟨rfl,k2⟩:=(show Ru8 l4 c from h2)
 obtain ⟨rfl,k3⟩:=(show Ru8 l6 d from h3)
 have h4:l7=[]:=h4
 subst h4
 exact ⟨[a,b,c,d],rfl,rfl,List.forall_mem_cons.2 ⟨k0,List.forall_mem_cons.2 ⟨k1,List.forall_mem_cons.2 ⟨k2,List.forall_mem_cons.2 ⟨k3,fun x hx=>by cases hx⟩⟩⟩⟩⟩
theorem int_of {st:St}{l:List S}{y:Ty.i64.den} (h:RepTy .i64 st l y):∃ r:Int,l=[is r]:=⟨y,(show Ri64 l y from h).1⟩
theorem runs_open {st:St} (hw:WfS st) (hh:holdsAll st.heap l0=true) {y:S}{P:List InsD} (hp:RepP st y P) (hok:OkP P) (hlen:P.length<9223372036854775808) {b:List Nat} (hb:b.length=4) (hb8:∀ x∈b,x<256) (r:Int) :
  ∃ k,callK F (runO l0 O0 F k) 3 [.sc y,.agg (b.map bs),.sc (is r)] st saysTrue=.done .normal .leaf ⟨.leaf,0,0⟩:=by
 obtain ⟨x',t,s',⟨rfl,h1⟩,n,h2⟩:=law_ok hw hh hp hok hlen hb hb8 r (fun x ρ s'=>x=.ret∧ρ q6=bl true) (fun ρ s' h=>⟨rfl,h⟩) (setLp [q0,q1,q2] [.sc y,.agg (b.map bs),.sc (is r)] .leaf) (by rw [rho_setLp,rho_leaf])
 refine ⟨n, ?_⟩
 show setL [q0,q1,q2] [.sc y,.agg (b.map bs),.sc (is r)] .leaf (fun tm=>retK cf3.results saysTrue (runO l0 O0 F n cf3.body tm st))=_
 rw [setL_eq',← runC_O,h2 n (Nat.le_refl _)]
 show fin1 saysTrue s' [rho t q6]=_
 rw [h1];rfl
end
end Go.Proofs.YtkneccbdfpnnlaaGreatDoor.Ev
