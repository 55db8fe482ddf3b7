/- What the listed package variables hold, and the evaluator's runs, by the kernel; no conditions. -/
import Derived.Test.YtkneccbdfpnnlaaGreatDoorMb
import Derived.KernelRfl
import Derived.Test.YtkneccbdfpnnlaaGreatDoorPd
namespace Go.Proofs.YtkneccbdfpnnlaaGreatDoor.Ev
set_option linter.unusedSimpArgs false
set_option linter.unusedVariables false
section
variable {st s t:St}{n i id off:Nat}
theorem ushri (a b:Nat) (c:CallK) (r:Ev) (K:V→St→R) (h:b≤64):xS false (uv a) (iv b) c r st K=K (uv (a / 2 ^ b)) st:=by
 have e:=ushr (st:=st) a b c r K h
 rw [← e]
 show (iteB (intLt (b:Int) 0) (.fail 12) _)=_
 rw [intLt_b,decide_eq_false (by omega),iteB_false];rfl
theorem mst_regs {g:MSt} (h:OkM g) {s:St}{id:Nat} (b:Bx s id (mstC g)):rdN s id 1 4=some (g.r.map bs) :=
 rdN_get (by simp [h.1]) fun i x hx=>by
  have hi:=some_lt hx
  simp [h.1] at hi
  have e:=mst_r h hi
  refine b.rd (1+i) x (e.trans ?_)
  rw [← hx]
  simp [List.getD_eq_getElem?_getD,h.1,hi]
structure LnI (st:St) (g:MSt) (fi:InsD) (G:MSt) (ra rb i6 i7:Nat) (ρ:Ev) (s:St) (f:Nat→Nat):Prop where
 fr:Fr st s
 l6:st.next+2<i6
 l7:st.next+2<i7
 e3:ρ q3=.sc (.ptr st.next 0)
 e4:ρ q4=.sc (.ptr (st.next+1) 0)
 e5:ρ q5=.sc (.ptr (st.next+1+1) 0)
 e6:ρ q6=.sc (.ptr i6 0)
 e7:ρ q7=.sc (.ptr i7 0)
 e9:ρ q9=uv ra
 e10:ρ q10=uv rb
 bG:Bx s st.next (mstC g)
 bR:Bx s (st.next+1) (A50 fun _=>0)
 bA:Bx s (st.next+1+1) (A50 f)
 bI:Bx s i6 (insC fi)
 bN:Bx s i7 (mstC G)
section
variable {g:MSt}{fi:InsD}{G:MSt}{ra rb i6 i7:Nat}{ρ ρ':Ev}{f f':Nat→Nat}
theorem LnI.env (h:LnI st g fi G ra rb i6 i7 ρ s f) (h3:ρ' q3=ρ q3) (h4:ρ' q4=ρ q4) (h5:ρ' q5=ρ q5) (h6:ρ' q6=ρ q6) (h7:ρ' q7=ρ q7) (h9:ρ' q9=ρ q9) (h10:ρ' q10=ρ q10):LnI st g fi G ra rb i6 i7 ρ' s f :=
 ⟨h.fr,h.l6,h.l7,h3.trans h.e3,h4.trans h.e4,h5.trans h.e5,h6.trans h.e6,h7.trans h.e7,h9.trans h.e9,h10.trans h.e10,h.bG,h.bR,h.bA,h.bI,h.bN⟩
theorem LnI.kp (hw:WfS st) (h:LnI st g fi G ra rb i6 i7 ρ s f) (k:Kp (some (st.next+1+1)) s t) (b:Bx t (st.next+1+1) (A50 f')):LnI st g fi G ra rb i6 i7 ρ t f':=by
 have:=h.l6;have:=h.l7
 exact ⟨k.fr h.fr (fun id h=>by cases h;omega) hw,h.l6,h.l7,h.e3,h.e4,h.e5,h.e6,h.e7,h.e9,h.e10,h.bG.kp k (ne_some (by omega)),h.bR.kp k (ne_some (by omega)),b,h.bI.kp k (ne_some (by omega)),h.bN.kp k (ne_some (by omega))⟩
theorem LnI.congr (h:LnI st g fi G ra rb i6 i7 ρ s f) (e:∀ c,c<50→f c=f' c):LnI st g fi G ra rb i6 i7 ρ s f' :=
 ⟨h.fr,h.l6,h.l7,h.e3,h.e4,h.e5,h.e6,h.e7,h.e9,h.e10,h.bG,h.bR,A50_congr e▸h.bA,h.bI,h.bN⟩
theorem LnI.mv (h:LnI st g fi G ra rb i6 i7 ρ s f) (k:Fr s t):LnI st g fi G ra rb i6 i7 ρ t f :=
 ⟨h.fr.trans k,h.l6,h.l7,h.e3,h.e4,h.e5,h.e6,h.e7,h.e9,h.e10,h.bG.fr k,h.bR.fr k,h.bA.fr k,h.bI.fr k,h.bN.fr k⟩
end
theorem usub0 (a b:Nat) (K:V→R) (ha:a<18446744073709551616) (hb:b<18446744073709551616):binK .sub (uv a) (uv b) K=K (uv (sub64 a b)):=by
 rw [show binK .sub (uv a) (uv b) K=_ from bin_sub _ _ _ _]
 congr 2
 have:IntKind.u64.wrap ((a:Int) - b)=((a:Int) - b) % 18446744073709551616:=by
  unfold IntKind.wrap
  simp [IntKind.bits,IntKind.signed]
 rw [this]
 unfold sub64
 show S.int .u64 _=S.int .u64 _
 congr 1
 omega
theorem usubw (a b:Nat) (ha:a<256) (hb:b<256):sub64 a b / 9223372036854775808=(if a<b then 1 else 0):=by
 unfold sub64
 split <;> omega
theorem codeV_lt {f:InsD} (ho:f.o≤8) (ha:f.a<4) (hb:f.b<4):codeV f<65536:=by
 have hco:=code_or f.o (by omega) f.a ha f.b hb
 have p1:=pow_le16 (a:=8+f.a) (by omega)
 have p2:=pow_le16 (a:=12+f.b) (by omega)
 have p3:=pow_le16 (a:=f.o - 1) (by omega)
 have p4:2 ^ (8+f.a) ||| 2 ^ (12+f.b)<65536:=Nat.or_lt_two_pow (n:=16) (by omega) (by omega)
 unfold codeV
 rw [← hco]
 split
 ·exact p4
 ·exact Nat.or_lt_two_pow (n:=16) p4 (by omega)
theorem line_ok (hw:WfS st) (hh:holdsAll st.heap l0=true) {y:S}{P:List InsD} (hp:RepP st y P) (hok:OkP P) (hv:validV P=0) {g:MSt} (hG:OkR P g) :
  Ca (cF F) 15 [.sc y,.agg (mstC g)] st (fun v s=>Fr st s∧v=.agg ((lineV (fetchV P g.pc) g).map us)):=by
 obtain ⟨ho,ha,hb,hm,_,_,_⟩:=fetch_fit hv hok g.pc
 have hpl:=len32 hv
 have hlo:=hG.lo
 have hhi:=hG.hi
 have hg:=hG.ok
 have hG1:=(stepM_ok hv hok hG).ok
 have hfet:=fun (s:St) (hws:WfS s) (hps:RepP s y P)=>fetch_ok hws hps g.pc
 have hstp:=fun (s:St) (hws:WfS s) (hhs:holdsAll s.heap l0=true) (hps:RepP s y P)=>mstep_ok hws hhs hps hok hv hG
 have hzv:zV (fetchV P g.pc) g<256:=zV_lt hv hok hG
 have hcv:cellV (fetchV P g.pc) g<256:=cellV_lt hv hok hG
 generalize fetchV P g.pc=fi at *
 have ha:fi.a<4:=by omega
 have hb:fi.b<4:=by omega
 have hra:=getD_lt hg.2.2.1 (by omega) fi.a
 have hrb:=getD_lt hg.2.2.1 (by omega) fi.b
 have hrA:=mst_r hg ha
 have hrB:=mst_r hg hb
 have hnA:=mst_r hG1 ha
 have hnM:=mst_m hG1 (k:=g.r.getD fi.b 0 % 16) (by omega)
 rw [show (stepM fi g).r.getD fi.a 0=zV fi g from rfl] at hnA
 rw [show (stepM fi g).m.getD (g.r.getD fi.b 0 % 16) 0=cellV fi g from rfl] at hnM
 have hcl:=codeV_lt ho ha hb
 refine Ca.of (hf:=cf15) rfl rfl [q0,q1] [.cellN n50 q4] rfl rfl rfl fun Q hQ=>?_
 refine Ru.rs fun P' hP=>?_
 simp -implicitDefEqProofs (disch:=first|decide|omega)
 refine Rg.ret (hP _ _ ?_)
 clear hP P'
 have f1:Fr st (new st (mstC g)):=(Fr.refl hw).new _
 have b1:Bx (new st (mstC g)) st.next (mstC g):=Bx.new
 have f2:Fr (new st (mstC g)) (new (new st (mstC g)) (A50 fun _=>0)):=(Fr.refl f1.wf).new _
 have b2:Bx (new (new st (mstC g)) (A50 fun _=>0)) (st.next+1) (A50 fun _=>0):=Bx.new
 replace b1:=b1.fr f2
 replace f2:=f1.trans f2
 have n2:(new (new st (mstC g)) (A50 fun _=>0)).next=st.next+1+1:=rfl
 show Ru _ _ _ (new (new st (mstC g)) (A50 fun _=>0)) _
 generalize new (new st (mstC g)) (A50 fun _=>0)=s2 at *
 clear f1
 refine Ru.rs fun P' hP=>?_
 simp -implicitDefEqProofs (disch:=first|decide|omega)
 refine Rg.ret (hP _ _ ?_)
 clear hP P'
 have f3:Fr s2 (new s2 (A50 fun _=>0)):=(Fr.refl f2.wf).new _
 have b3:Bx (new s2 (A50 fun _=>0)) s2.next (A50 fun _=>0):=Bx.new
 rw [n2] at b3 ⊢
 replace b1:=b1.fr f3
 replace b2:=b2.fr f3
 replace f3:=f2.trans f3
 show Ru _ _ _ (new s2 (A50 fun _=>0)) _
 generalize new s2 (A50 fun _=>0)=s3 at *
 clear f2 n2
 refine Ru.rs fun P' hP=>?_
 simp -implicitDefEqProofs (disch:=first|decide|omega) [b1.rd 0 _ rfl]
 refine Rg.call (hfet s3 f3.wf (hp.fr f3)) fun v s4 hv4=>?_
 obtain ⟨f4,rfl⟩:=hv4
 have hst:∀ K:St→R,Ev.sto (new s4 [bs 0,bs 0,bs 0,bs 0]) 4 (.sc (.ptr s4.next 0)) (.agg (insC fi)) K=K (wr (new s4 [bs 0,bs 0,bs 0,bs 0]) s4.next 0 (insC fi)):=fun K=>(Bx.new (s:=s4) (l:=[bs 0,bs 0,bs 0,bs 0])).stoN (l':=insC fi) (n:=4) rfl rfl K
 simp -implicitDefEqProofs (disch:=first|decide|omega) [hst]
 refine Rg.ret (hP _ _ ?_)
 clear hP P'
 have f5:=fr_mk f4.wf [bs 0,bs 0,bs 0,bs 0] (insC fi)
 have b5:Bx (wr (new s4 [bs 0,bs 0,bs 0,bs 0]) s4.next 0 (insC fi)) s4.next (insC fi):=Bx.mk' rfl
 generalize wr (new s4 [bs 0,bs 0,bs 0,bs 0]) s4.next 0 (insC fi)=s5 at *
 clear hst
 have hl6:st.next+2<s4.next:=by have:=b3.lt;have:=f4.next;omega
 replace b1:=(b1.fr f4).fr f5
 replace b2:=(b2.fr f4).fr f5
 replace b3:=(b3.fr f4).fr f5
 replace f5:=(f3.trans f4).trans f5
 clear f4 f3
 generalize s4.next=i6 at *
 refine Ru.rs fun P' hP=>?_
 simp -implicitDefEqProofs (disch:=first|decide|omega) [b1.N (n:=21) hg.len]
 refine Rg.call (hstp s5 f5.wf (holdsAll_fr f5 hh) (hp.fr f5)) fun v s6 hv6=>?_
 obtain ⟨f6,rfl⟩:=hv6
 have hst:∀ K:St→R,Ev.sto (new s6 z21) 21 (.sc (.ptr s6.next 0)) (.agg (mstC (stepM fi g))) K=K (wr (new s6 z21) s6.next 0 (mstC (stepM fi g))):=fun K=>(Bx.new (s:=s6) (l:=z21)).stoN (l':=mstC (stepM fi g)) (n:=21) hG1.len rfl K
 simp -implicitDefEqProofs (disch:=first|decide|omega) [hst]
 refine Rg.ret (hP _ _ ?_)
 clear hP P'
 have f7:=fr_mk f6.wf z21 (mstC (stepM fi g))
 have b7:Bx (wr (new s6 z21) s6.next 0 (mstC (stepM fi g))) s6.next (mstC (stepM fi g)):=Bx.mk' (hG1.len.trans rfl)
 generalize wr (new s6 z21) s6.next 0 (mstC (stepM fi g))=s7 at *
 clear hst
 have hl7:st.next+2<s6.next:=by have:=b3.lt;have:=f6.next;omega
 replace b1:=(b1.fr f6).fr f7
 replace b2:=(b2.fr f6).fr f7
 replace b3:=(b3.fr f6).fr f7
 replace b5:=(b5.fr f6).fr f7
 replace f7:=(f5.trans f6).trans f7
 clear f6 f5
 generalize s6.next=i7 at *
 generalize era:g.r.getD fi.a 0=ra at *
 generalize erb:g.r.getD fi.b 0=rb at *
 refine Ru.ds fun P' hP=>?_
 simp -implicitDefEqProofs (disch:=first|decide|omega) [b5.rd 1 _ rfl,b1.rd _ _ hrA,b5.rd 2 _ rfl,b1.rd _ _ hrB,cnv_bu _ _ hra,cnv_bu _ _ hrb]
 refine Rg.ret (hP _ _ ?_)
 clear hP P'
 refine Ru.at (fun ρ=>LnI st g fi (stepM fi g) ra rb i6 i7 ρ s7 (fun _=>0)) ⟨f7,hl6,hl7,rfl,rfl,rfl,rfl,rfl,rfl,rfl,b1,b2,b3,b5,b7⟩ fun ρ0 I=>?_
 clear b1 b2 b3 b5 b7 f7
 refine Ru.ds fun P' hP=>?_
 have hlt3:=I.bG.lt
 have hlt6:=I.bI.lt
 simp -implicitDefEqProofs (disch:=first|decide|omega) [I.e3,I.e5,I.e6,I.e9,I.e10,I.bG.rd 0 _ rfl,dN_low,I.bI.N (n:=4) rfl]
 refine Rg.dc (fun v=>v=uv (codeV fi)) I.fr.wf (by decide) (by decide) (packed_ok (wf_setLow (h:=I.fr.wf)) fi ho ha hb) fun v s8 f8 hv8=>?_
 subst hv8
 replace I:=I.mv f8
 have x1:=I.bA.a50 (i:=0) (by decide) g.pc.toNat
 have x2:=x1.a50 (i:=21) (by decide) (codeV fi)
 have x3:=x2.a50 (i:=22) (by decide) fi.m
 have x4:=x3.a50 (i:=23) (by decide) ra
 have x5:=x4.a50 (i:=24) (by decide) rb
 have k1:=I.bA.kpw I.fr.wf (i:=0) [us g.pc.toNat]
 have k2:=x1.kpw k1.wf (i:=21) [us (codeV fi)]
 have k3:=x2.kpw k2.wf (i:=22) [us fi.m]
 have k4:=x3.kpw k3.wf (i:=23) [us ra]
 have k5:=x4.kpw k4.wf (i:=24) [us rb]
 have hl6:=I.l6
 simp -implicitDefEqProofs (disch:=first|decide|omega | (apply okS_t;decide;(simp (decide:=true) <;> omega))) [I.e3,I.e5,I.e6,I.e9,I.e10,dL_low,I.bI.rd 3 _ rfl,cnv_bu fi.m _ hm,dS_ok (n:=50) (off:=0) (A50_len _▸I.bA.own),dS_ok (n:=50) (off:=21) (A50_len _▸x1.own),dS_ok (n:=50) (off:=22) (A50_len _▸x2.own),dS_ok (n:=50) (off:=23) (A50_len _▸x3.own),dS_ok (n:=50) (off:=24) (A50_len _▸x4.own)]
 refine Rg.ret (hP _ _ ?_)
 clear hP P'
 replace I:=(I.kp hw ((((k1.trans k2).trans k3).trans k4).trans k5) x5).env (ρ':=updE [] [] ρ0) rfl rfl rfl rfl rfl rfl rfl
 clear x1 x2 x3 x4 x5 k1 k2 k3 k4 k5 hlt3 hlt6
 generalize wr (wr (wr (wr (wr s8 (st.next+1+1) 0 [us g.pc.toNat]) (st.next+1+1) 21 [us (codeV fi)]) (st.next+1+1) 22 [us fi.m]) (st.next+1+1) 23 [us ra]) (st.next+1+1) 24 [us rb]=s9 at *
 generalize updE [] [] ρ0=ρ1 at *
 clear f8
 obtain ⟨f0,ef0⟩:∃ f0,f0=up (up (up (up (up (fun _=>0) 0 g.pc.toNat) 21 (codeV fi)) 22 fi.m) 23 ra) 24 rb:=⟨_,rfl⟩
 rw [← ef0] at I
 refine Ru.seq (Ru.rs fun P' hP=>?_)
 simp -implicitDefEqProofs (disch:=first|decide|omega) [I.e3,mst_regs hg I.bG]
 refine Rg.ret (hP _ _ ?_)
 clear hP P'
 refine Ru.at (fun ρ=>LnI st g fi (stepM fi g) ra rb i6 i7 ρ s9 f0∧ρ q52=.agg (g.r.map bs)∧ρ q53=iv (0:Nat)) ⟨I.env rfl rfl rfl rfl rfl rfl rfl,rfl,rfl⟩ fun ρ2 hE=>?_
 clear I
 obtain ⟨I,e52,e53⟩:=hE
 refine Ru.block (Ru.lp [q3,q4,q5,q6,q7,q9,q10,q52] (fun j:Nat=>4 - j) (fun i ρ s=>LnI st g fi (stepM fi g) ra rb i6 i7 ρ s (fun c=>if 1≤c∧c<1+i then g.r.getD (c - 1) 0 else f0 c)∧i≤4∧ρ q53=iv i)
  ⟨0,I.congr fun c hc=>by rw [if_neg (by omega)],by omega,e53⟩ fun i ρ s hk hI=>?_)
 clear e53 I s9
 obtain ⟨I,hi,e53⟩:=hI
 refine Ru.rs fun P' hP=>?_
 simp -implicitDefEqProofs (disch:=first|decide|omega) [e53]
 refine Rg.ret (hP _ _ ?_)
 clear hP P'
 refine Ru.seq (Ru.cond rfl (fun h=>Ru.skip ?_) fun h=>Ru.exit ?_)
 ·simp at h
  simp only [Then,Out]
  have hlt:i<4:=by omega
  have hri:(g.r.map bs)[i]?=some (bs (g.r.getD i 0)):=by simp [List.getD_eq_getElem?_getD,hg.1,hlt]
  have hr8:=getD_lt hg.2.2.1 (by omega) i
  generalize eri:g.r.getD i 0=ri at hri hr8
  refine Ru.seq (Ru.block (Ru.rs fun P' hP=>?_))
  simp -implicitDefEqProofs (disch:=first|decide|omega) [hk.e,e52,e53,idxV_sc (len:=4) _ _ _ hlt hri]
  refine Rg.ret (hP _ _ ?_)
  clear hP P'
  refine Ru.r1 fun P' hP=>?_
  have e1:((1:Int)+i).toNat=1+i:=by omega
  simp -implicitDefEqProofs (disch:=first|decide|omega) [I.e5,cnv_bu _ _ hr8,e1,I.bA.sto (i:=1+i) (by rw [A50_len];omega)]
  refine Rg.ret (hP _ _ ?_)
  clear hP P'
  refine Ru.r1 fun P' hP=>?_
  simp -implicitDefEqProofs (disch:=first|decide|omega) [e53]
  refine Rg.ret (hP _ _ ?_)
  clear hP P'
  refine ⟨by repeat first | exact hk | refine Keep.up (by rfl) ?_,i+1,by omega, ?_,by omega,rfl⟩
  refine LnI.congr ((I.kp hw (I.bA.kpw I.fr.wf _) (I.bA.a50 (i:=1+i) (by omega) _)).env rfl rfl rfl rfl rfl rfl rfl) fun c hc=>?_
  show (if c=1+i then ri else (if 1≤c∧c<1+i then g.r.getD (c - 1) 0 else f0 c))=_
  by_cases hc1:c=1+i
  ·subst hc1;rw [if_pos rfl,if_pos (by omega),← eri];congr 1;omega
  ·rw [if_neg hc1]
   by_cases hc2:1≤c∧c<1+i
   ·rw [if_pos hc2,if_pos (by omega)]
   ·rw [if_neg hc2,if_neg (by omega)]
 simp at h
 have h4:i=4:=by omega
 subst h4
 simp only [Then,Out,if_true]
 obtain ⟨f1,ef1⟩:∃ f1,f1=(fun c=>if 1≤c∧c<1+4 then g.r.getD (c - 1) 0 else f0 c):=⟨_,rfl⟩
 rw [← ef1] at I
 refine Ru.seq (Ru.rs fun P' hP=>?_)
 simp -implicitDefEqProofs (disch:=first|decide|omega)
 refine Rg.ret (hP _ _ ?_)
 clear hP P'
 refine Ru.at (fun ρ=>LnI st g fi (stepM fi g) ra rb i6 i7 ρ s f1∧ρ q63=iv (0:Nat)) ⟨I.env rfl rfl rfl rfl rfl rfl rfl,rfl⟩ fun ρ3 hE=>?_
 clear I hk e52 e53 h hi
 obtain ⟨I,e63⟩:=hE
 have hf21:f1 21=codeV fi:=by rw [ef1,ef0];rfl
 refine Ru.block (Ru.lp [q3,q4,q5,q6,q7,q9,q10] (fun j:Nat=>16 - j) (fun i ρ s=>LnI st g fi (stepM fi g) ra rb i6 i7 ρ s (fun c=>if 5≤c∧c<5+i then bitV (codeV fi) (c - 5) else f1 c)∧i≤16∧ρ q63=iv i)
  ⟨0,I.congr fun c hc=>by rw [if_neg (by omega)],by omega,e63⟩ fun i ρ s hk hI=>?_)
 clear e63 I
 obtain ⟨I,hi,e63⟩:=hI
 refine Ru.rs fun P' hP=>?_
 simp -implicitDefEqProofs (disch:=first|decide|omega) [e63]
 refine Rg.ret (hP _ _ ?_)
 clear hP P'
 refine Ru.seq (Ru.cond rfl (fun h=>Ru.skip ?_) fun h=>Ru.exit ?_)
 ·simp at h
  simp only [Then,Out]
  have hlt:i<16:=by omega
  have r21:=I.bA.rd 21 _ (A50_get _ (by decide))
  simp only [if_neg (show ¬ (5≤21∧21<5+i) by omega),hf21] at r21
  refine Ru.seq (Ru.block (Ru.rs fun P' hP=>?_))
  simp -implicitDefEqProofs (disch:=first|decide|omega) [e63]
  refine Rg.ret (hP _ _ ?_)
  clear hP P'
  refine Ru.r1 fun P' hP=>?_
  have e1:((5:Int)+i).toNat=5+i:=by omega
  have hd:=Nat.div_le_self (codeV fi) (2 ^ i)
  simp -implicitDefEqProofs (disch:=first|decide|omega) [I.e5,e1,r21,ushri,I.bA.sto (i:=5+i) (by rw [A50_len];omega)]
  refine Rg.ret (hP _ _ ?_)
  clear hP P'
  refine Ru.r1 fun P' hP=>?_
  simp -implicitDefEqProofs (disch:=first|decide|omega) [e63]
  refine Rg.ret (hP _ _ ?_)
  clear hP P'
  refine ⟨by repeat first | exact hk | refine Keep.up (by rfl) ?_,i+1,by omega, ?_,by omega,rfl⟩
  refine LnI.congr ((I.kp hw (I.bA.kpw I.fr.wf _) (I.bA.a50 (i:=5+i) (by omega) _)).env rfl rfl rfl rfl rfl rfl rfl) fun c hc=>?_
  show (if c=5+i then _ else (if 5≤c∧c<5+i then bitV (codeV fi) (c - 5) else f1 c))=_
  by_cases hc1:c=5+i
  ·subst hc1;rw [if_pos rfl,if_pos (by omega)];unfold bitV;rw [show 5+i - 5=i by omega];exact (Nat.and_one_is_mod _).symm
  ·rw [if_neg hc1]
   by_cases hc2:5≤c∧c<5+i
   ·rw [if_pos hc2,if_pos (by omega)]
   ·rw [if_neg hc2,if_neg (by omega)]
 simp at h
 have h4:i=16:=by omega
 subst h4
 simp only [Then,Out,if_true]
 obtain ⟨f2,ef2⟩:∃ f2,f2=(fun c=>if 5≤c∧c<5+16 then bitV (codeV fi) (c - 5) else f1 c):=⟨_,rfl⟩
 rw [← ef2] at I
 refine Ru.at (fun ρ=>LnI st g fi (stepM fi g) ra rb i6 i7 ρ s f2) (I.env rfl rfl rfl rfl rfl rfl rfl) fun ρ4 I2=>?_
 clear I hk e63 h hi
 have I:=I2
 clear I2
 refine Ru.rs fun P' hP=>?_
 simp -implicitDefEqProofs (disch:=first|decide|omega) [I.e5,I.e6,I.e7,I.bI.rd 1 _ rfl,I.bN.rd _ _ hnA,cnv_bu _ _ hzv]
 refine Rg.call (put_ok I.fr.wf I.bA 25 (by decide) 26 (by decide) (zV fi g) (by omega)) fun v s10 hv10=>?_
 obtain ⟨k10,b10⟩:=hv10
 refine Rg.ret (hP _ _ ?_)
 clear hP P'
 replace I:=(I.kp hw k10 b10).env (ρ':=updE [] [] ρ4) rfl rfl rfl rfl rfl rfl rfl
 generalize updE [] [] ρ4=ρ5 at *
 clear k10 b10 s
 obtain ⟨f3,ef3⟩:∃ f3,f3=putF (if (0:Int)≤25 then up f2 (25:Int).toNat (zV fi g) else f2) 26 (zV fi g):=⟨_,rfl⟩
 rw [← ef3] at I
 have fin:∀ (ρ:Ev) (s:St) (f':Nat→Nat) (Q':X→Ev→St→Prop),Q' .ret=Q .ret→LnI st g fi (stepM fi g) ra rb i6 i7 ρ s f'→A50 (up (putF f' 32 rb) 34 (cellV fi g))=(lineV fi g).map us →
   Ru (cF F) (.seq (.reg [] fun c r s K=>c 33 [(r q5),(.sc (.int .i64 (.negSucc n0))),I32,(r q10)] s fun v0 s=>K [] s) (.seq (.reg [] fun c r s K=>binK .rem (r q10) U16 fun v0=>fad n5 (r q7) fun v1=>ixA n16 n1 v1 v0 fun v2=>ld s v2 fun v3=>cnv .u64 v3 fun v4=>ixA n50 n1 (r q5) I34 fun v5=>sto s n1 v5 v4 fun s=>K [] s) (.seq (.reg [] fun c r s K=>lN s n50 (r q5) fun v0=>sto s n50 (r q4) v0 fun s=>K [] s) .ret))) ρ s Q':=fun ρ s f' Q' hq I he=>by
  refine Ru.rs fun P' hP=>?_
  simp -implicitDefEqProofs (disch:=first|decide|omega) [I.e5,I.e10]
  refine Rg.call (put_ok (f:=f') I.fr.wf I.bA (-1) (by decide) 32 (by decide) rb (by omega)) fun v s11 hv11=>?_
  obtain ⟨k11,b11⟩:=hv11
  refine Rg.ret (hP _ _ ?_)
  clear hP P'
  replace I:=I.kp hw k11 b11
  refine Ru.rs fun P' hP=>?_
  simp -implicitDefEqProofs (disch:=first|decide|omega) [I.e5,I.e7,I.e10,I.bN.rd _ _ hnM,cnv_bu _ _ hcv,I.bA.sto (i:=34) (by rw [A50_len];omega)]
  refine Rg.ret (hP _ _ ?_)
  clear hP P'
  replace I:=I.kp hw (I.bA.kpw I.fr.wf _) (I.bA.a50 (i:=34) (by decide) (cellV fi g))
  have hbA:=I.bA
  have e34:A50 (up (putF (if (0:Int)≤ -1 then up f' (-1:Int).toNat rb else f') 32 rb) 34 (cellV fi g))=(lineV fi g).map us:=he
  rw [e34] at hbA
  have hl:((lineV fi g).map us).length=50:=by simp [lineV_len]
  refine Ru.rs fun P' hP=>?_
  simp -implicitDefEqProofs (disch:=first|decide|omega) [I.e4,I.e5,hbA.N (n:=50) hl,I.bR.stoN (l':=(lineV fi g).map us) (n:=50) hl (A50_len _)]
  refine Rg.ret (hP _ _ ?_)
  clear hP P'
  have kw:=I.bR.kpw I.fr.wf (i:=0) ((lineV fi g).map us)
  exact Ru.ret (hq▸hQ _ _ (resP.cells (n:=49) (id:=st.next+1) (off:=0) (l:=(lineV fi g).map us) I.e4 ((I.bR.setN (l':=(lineV fi g).map us) (by rw [hl,A50_len])).N hl) ⟨kw.fr I.fr (fun id h=>by cases h;omega) hw,rfl⟩))
 refine Ru.seq (Ru.rs fun P' hP=>?_)
 simp -implicitDefEqProofs (disch:=first|decide|omega) [I.e6,I.bI.rd 0 _ rfl]
 refine Rg.ret (hP _ _ ?_)
 clear hP P'
 replace I:=I.env (ρ':=updE [q83] [bv fi.o] ρ5) rfl rfl rfl rfl rfl rfl rfl
 have e83:updE [q83] [bv fi.o] ρ5 q83=bv fi.o:=rfl
 generalize updE [q83] [bv fi.o] ρ5=ρ6 at *
 have hmulN:ra * rb≤255 * 255:=Nat.mul_le_mul (by omega) (by omega)
 refine Ru.block ?_
 refine Ru.rs fun P' hP=>?_
 simp -implicitDefEqProofs (disch:=first|decide|omega) [e83]
 refine Rg.ret (hP _ _ ?_)
 clear hP P'
 refine Ru.cond rfl (fun h3=>?_) fun h3=>?_
 ·simp at h3
  have hh3:hV fi ra rb=(ra+rb) / 256:=by unfold hV;rw [if_pos h3]
  refine Ru.r1 fun P' hP=>?_
  simp -implicitDefEqProofs (disch:=first|decide|omega) [I.e5,I.e9,I.e10]
  refine Rg.call (put_ok I.fr.wf I.bA (-1) (by decide) 28 (by decide) ((ra+rb) / 256) (by omega)) fun v s12 hv12=>?_
  obtain ⟨k12,b12⟩:=hv12
  refine Rg.ret (hP _ _ ?_)
  clear hP P'
  refine fin _ _ _ _ rfl ((I.kp hw k12 b12).env rfl rfl rfl rfl rfl rfl rfl) ?_
  unfold lineV
  rw [era,erb,hh3,if_neg (show ¬ fi.o=8 by omega),if_neg (show ¬ fi.o=8 by omega),ef3,ef2,ef1,ef0]
  kernel_rfl
 simp at h3
 refine Ru.rs fun P' hP=>?_
 simp -implicitDefEqProofs (disch:=first|decide|omega) [e83]
 refine Rg.ret (hP _ _ ?_)
 clear hP P'
 refine Ru.cond rfl (fun h5=>?_) fun h5=>?_
 ·simp at h5
  have hh5:hV fi ra rb=ra * rb / 256:=by unfold hV;rw [if_neg h3,if_neg (by omega),if_pos h5]
  refine Ru.r1 fun P' hP=>?_
  simp -implicitDefEqProofs (disch:=first|decide|omega) [I.e5,I.e9,I.e10]
  refine Rg.call (put_ok I.fr.wf I.bA (-1) (by decide) 28 (by decide) (ra * rb / 256) (by omega)) fun v s12 hv12=>?_
  obtain ⟨k12,b12⟩:=hv12
  refine Rg.ret (hP _ _ ?_)
  clear hP P'
  refine fin _ _ _ _ rfl ((I.kp hw k12 b12).env rfl rfl rfl rfl rfl rfl rfl) ?_
  unfold lineV
  rw [era,erb,hh5,if_neg (show ¬ fi.o=8 by omega),if_neg (show ¬ fi.o=8 by omega),ef3,ef2,ef1,ef0]
  kernel_rfl
 simp at h5
 refine Ru.rs fun P' hP=>?_
 simp -implicitDefEqProofs (disch:=first|decide|omega) [e83]
 refine Rg.ret (hP _ _ ?_)
 clear hP P'
 refine Ru.cond rfl (fun h4=>?_) fun h4=>?_
 ·simp at h4
  have hh4:hV fi ra rb=(if ra<rb then 1 else 0):=by unfold hV;rw [if_neg h3,if_pos h4]
  refine Ru.r1 fun P' hP=>?_
  have es:=usubw ra rb (by omega) (by omega)
  simp -implicitDefEqProofs (disch:=first|decide|omega) [I.e5,I.e9,I.e10,usub0]
  refine Rg.call (put_ok I.fr.wf I.bA (-1) (by decide) 28 (by decide) (sub64 ra rb / 9223372036854775808) (by rw [es];split <;> omega)) fun v s12 hv12=>?_
  obtain ⟨k12,b12⟩:=hv12
  refine Rg.ret (hP _ _ ?_)
  clear hP P'
  refine fin _ _ _ _ rfl ((I.kp hw k12 b12).env rfl rfl rfl rfl rfl rfl rfl) ?_
  unfold lineV
  rw [era,erb,if_neg (show ¬ fi.o=8 by omega),if_neg (show ¬ fi.o=8 by omega),hh4,es,ef3,ef2,ef1,ef0]
  kernel_rfl
 simp at h4
 have hh0:hV fi ra rb=0:=by unfold hV;rw [if_neg h3,if_neg h4,if_neg h5]
 refine Ru.rs fun P' hP=>?_
 simp -implicitDefEqProofs (disch:=first|decide|omega) [e83]
 refine Rg.ret (hP _ _ ?_)
 clear hP P'
 refine Ru.cond rfl (fun h8=>?_) fun h8=>Ru.skip ?_
 ·simp at h8
  refine Ru.rs fun P' hP=>?_
  simp -implicitDefEqProofs (disch:=first|decide|omega) [I.e5,I.e9]
  refine Rg.call (inv3_ok I.fr.wf (holdsAll_fr I.fr hh) ra) fun v s12 hv12=>?_
  obtain ⟨f12,rfl⟩:=hv12
  replace I:=I.mv f12
  simp -implicitDefEqProofs (disch:=first|decide|omega) [I.bA.sto (i:=30) (by rw [A50_len];omega)]
  refine Rg.ret (hP _ _ ?_)
  clear hP P'
  replace I:=I.kp hw (I.bA.kpw I.fr.wf (i:=30) [us (inv3 ra)]) (I.bA.a50 (i:=30) (by decide) (inv3 ra))
  refine Ru.r1 fun P' hP=>?_
  simp -implicitDefEqProofs (disch:=first|decide|omega) [I.e5,I.e9,umin2,I.bA.sto (i:=31) (by rw [A50_len];omega)]
  refine Rg.ret (hP _ _ ?_)
  clear hP P'
  replace I:=I.kp hw (I.bA.kpw I.fr.wf (i:=31) [us (min ra 1)]) (I.bA.a50 (i:=31) (by decide) (min ra 1))
  refine fin _ _ _ _ rfl (I.env rfl rfl rfl rfl rfl rfl rfl) ?_
  unfold lineV
  rw [era,erb,hh0,if_pos h8,if_pos h8,ef3,ef2,ef1,ef0]
  kernel_rfl
 simp at h8
 refine fin _ _ _ _ rfl (I.env rfl rfl rfl rfl rfl rfl rfl) ?_
 unfold lineV
 rw [era,erb,hh0,if_neg h8,if_neg h8,ef3,ef2,ef1,ef0]
 kernel_rfl
end
section
variable {st s t:St}{n i id off:Nat}
structure RwI (st:St) (g:MSt) (fi:InsD) (ra rb i6:Nat) (ρ:Ev) (s:St) (f:Nat→Nat):Prop where
 fr:Fr st s
 l6:st.next+2<i6
 e3:ρ q3=.sc (.ptr st.next 0)
 e4:ρ q4=.sc (.ptr (st.next+1) 0)
 e5:ρ q5=.sc (.ptr (st.next+1+1) 0)
 e6:ρ q6=.sc (.ptr i6 0)
 e7:ρ q7=iv ra
 e8:ρ q8=iv rb
 bG:Bx s st.next (mstC g)
 bR:Bx s (st.next+1) (A50 fun _=>0)
 bA:Bx s (st.next+1+1) (A50 f)
 bI:Bx s i6 (insC fi)
section
variable {g:MSt}{fi:InsD}{ra rb i6:Nat}{ρ ρ':Ev}{f f':Nat→Nat}
theorem RwI.env (h:RwI st g fi ra rb i6 ρ s f) (h3:ρ' q3=ρ q3) (h4:ρ' q4=ρ q4) (h5:ρ' q5=ρ q5) (h6:ρ' q6=ρ q6) (h7:ρ' q7=ρ q7) (h8:ρ' q8=ρ q8):RwI st g fi ra rb i6 ρ' s f :=
 ⟨h.fr,h.l6,h3.trans h.e3,h4.trans h.e4,h5.trans h.e5,h6.trans h.e6,h7.trans h.e7,h8.trans h.e8,h.bG,h.bR,h.bA,h.bI⟩
theorem RwI.kp (hw:WfS st) (h:RwI st g fi ra rb i6 ρ s f) (k:Kp (some (st.next+1+1)) s t) (b:Bx t (st.next+1+1) (A50 f')):RwI st g fi ra rb i6 ρ t f':=by
 have:=h.l6
 exact ⟨k.fr h.fr (fun id h=>by cases h;omega) hw,h.l6,h.e3,h.e4,h.e5,h.e6,h.e7,h.e8,h.bG.kp k (ne_some (by omega)),h.bR.kp k (ne_some (by omega)),b,h.bI.kp k (ne_some (by omega))⟩
theorem RwI.wr (hw:WfS st) (h:RwI st g fi ra rb i6 ρ s f) {i:Nat} (hi:i<50) (x:Nat):RwI st g fi ra rb i6 ρ (Ev.wr s (st.next+1+1) i [us x]) (up f i x) :=
 h.kp hw (h.bA.kpw h.fr.wf _) (h.bA.a50 hi x)
theorem RwI.congr (h:RwI st g fi ra rb i6 ρ s f) (e:∀ c,c<50→f c=f' c):RwI st g fi ra rb i6 ρ s f' :=
 ⟨h.fr,h.l6,h.e3,h.e4,h.e5,h.e6,h.e7,h.e8,h.bG,h.bR,A50_congr e▸h.bA,h.bI⟩
theorem RwI.mv (h:RwI st g fi ra rb i6 ρ s f) (k:Fr s t):RwI st g fi ra rb i6 ρ t f :=
 ⟨h.fr.trans k,h.l6,h.e3,h.e4,h.e5,h.e6,h.e7,h.e8,h.bG.fr k,h.bR.fr k,h.bA.fr k,h.bI.fr k⟩
theorem RwI.sto (h:RwI st g fi ra rb i6 ρ s f) {i:Nat} (hi:i<50) (x:S) (K:St→R):Ev.sto s 1 (.sc (.ptr (st.next+1+1) i)) (.sc x) K=K (Ev.wr s (st.next+1+1) i [x]):=h.bA.sto (by rw [A50_len];exact hi) x K
theorem RwI.own (h:RwI st g fi ra rb i6 ρ s f):Own s (st.next+1+1) 50:=A50_len f▸h.bA.own
end
def bitOk (k:Nat):Bool:=let o:=k / 256;let a:=k / 64 % 4;let b:=k / 16 % 4;let j:=k % 16
 decide (bitV (2 ^ (8+a)+2 ^ (12+b)+(if o=0 then 0 else 2 ^ (o - 1))) j=(if j=12+b then 1 else if j=8+a then 1 else if 0<o∧j+1=o then 1 else 0))
theorem bitOk_all:(List.range 2304).all bitOk=true:=by kernel_rfl
theorem bit_code {f:InsD} (ho:f.o≤8) (ha:f.a<4) (hb:f.b<4) {j:Nat} (hj:j<16):bitV (codeV f) j=(if j=12+f.b then 1 else if j=8+f.a then 1 else if 0<f.o∧j+1=f.o then 1 else 0):=by
 have h:=List.all_eq_true.1 bitOk_all (f.o * 256+f.a * 64+f.b * 16+j) (List.mem_range.2 (by omega))
 unfold bitOk at h
 rw [show (f.o * 256+f.a * 64+f.b * 16+j) / 256=f.o by omega,show (f.o * 256+f.a * 64+f.b * 16+j) / 64 % 4=f.a by omega,show (f.o * 256+f.a * 64+f.b * 16+j) / 16 % 4=f.b by omega,show (f.o * 256+f.a * 64+f.b * 16+j) % 16=j by omega] at h
 exact of_decide_eq_true h
theorem sel_bits {c a b o:Nat} (h:5≤c):(if c=17+b then 1 else (if c=13+a then 1 else (if 0<o then (if c=4+o then 1 else 0) else 0)))=(if c - 5=12+b then 1 else if c - 5=8+a then 1 else if 0<o∧c - 5+1=o then 1 else 0):=by
 repeat' split
 all_goals omega
theorem row_ok (hw:WfS st) {y:S}{P:List InsD} (hp:RepP st y P) (hok:OkP P) (hv:validV P=0) {g:MSt} (hG:OkR P g) :
  Ca (cF F) 22 [.sc y,.agg (mstC g)] st (fun v s=>Fr st s∧v=.agg ((lineV (fetchV P g.pc) g).map us)):=by
 obtain ⟨ho,ha,hb,hm,_,_,_⟩:=fetch_fit hv hok g.pc
 have hpl:=len32 hv
 have hlo:=hG.lo
 have hhi:=hG.hi
 have hg:=hG.ok
 have hfet:=fun (s:St) (hws:WfS s) (hps:RepP s y P)=>rfetch_ok hws hps g.pc
 generalize fetchV P g.pc=fi at *
 have ha:fi.a<4:=by omega
 have hb:fi.b<4:=by omega
 have hra:=getD_lt hg.2.2.1 (by omega) fi.a
 have hrb:=getD_lt hg.2.2.1 (by omega) fi.b
 have hrA:=mst_r hg ha
 have hrB:=mst_r hg hb
 have hrM:=mst_m hg (k:=g.r.getD fi.b 0 % 16) (by omega)
 have hcm:=getD_lt hg.2.2.2 (by omega) (g.r.getD fi.b 0 % 16)
 have hzc:=zV_cmp hg ho ha
 have hcc:=cellV_cmp (f:=fi) hg
 have hcl:=codeV_lt ho ha hb
 generalize ecm:g.m.getD (g.r.getD fi.b 0 % 16) 0=cm at *
 generalize era:g.r.getD fi.a 0=ra at *
 generalize erb:g.r.getD fi.b 0=rb at *
 refine Ca.of (hf:=cf22) rfl rfl [q0,q1] [.cellN n50 q4] rfl rfl rfl fun Q hQ=>?_
 refine Ru.rs fun P' hP=>?_
 simp -implicitDefEqProofs (disch:=first|decide|omega)
 refine Rg.ret (hP _ _ ?_)
 clear hP P'
 have f1:Fr st (new st (mstC g)):=(Fr.refl hw).new _
 have b1:Bx (new st (mstC g)) st.next (mstC g):=Bx.new
 have f2:Fr (new st (mstC g)) (new (new st (mstC g)) (A50 fun _=>0)):=(Fr.refl f1.wf).new _
 have b2:Bx (new (new st (mstC g)) (A50 fun _=>0)) (st.next+1) (A50 fun _=>0):=Bx.new
 replace b1:=b1.fr f2
 replace f2:=f1.trans f2
 have n2:(new (new st (mstC g)) (A50 fun _=>0)).next=st.next+1+1:=rfl
 show Ru _ _ _ (new (new st (mstC g)) (A50 fun _=>0)) _
 generalize new (new st (mstC g)) (A50 fun _=>0)=s2 at *
 clear f1
 refine Ru.rs fun P' hP=>?_
 simp -implicitDefEqProofs (disch:=first|decide|omega)
 refine Rg.ret (hP _ _ ?_)
 clear hP P'
 have f3:Fr s2 (new s2 (A50 fun _=>0)):=(Fr.refl f2.wf).new _
 have b3:Bx (new s2 (A50 fun _=>0)) s2.next (A50 fun _=>0):=Bx.new
 rw [n2] at b3 ⊢
 replace b1:=b1.fr f3
 replace b2:=b2.fr f3
 replace f3:=f2.trans f3
 show Ru _ _ _ (new s2 (A50 fun _=>0)) _
 generalize new s2 (A50 fun _=>0)=s3 at *
 clear f2 n2
 refine Ru.rs fun P' hP=>?_
 simp -implicitDefEqProofs (disch:=first|decide|omega) [b1.rd 0 _ rfl]
 refine Rg.call (hfet s3 f3.wf (hp.fr f3)) fun v s4 hv4=>?_
 obtain ⟨f4,rfl⟩:=hv4
 have hst:∀ K:St→R,Ev.sto (new s4 [bs 0,bs 0,bs 0,bs 0]) 4 (.sc (.ptr s4.next 0)) (.agg (insC fi)) K=K (wr (new s4 [bs 0,bs 0,bs 0,bs 0]) s4.next 0 (insC fi)):=fun K=>(Bx.new (s:=s4) (l:=[bs 0,bs 0,bs 0,bs 0])).stoN (l':=insC fi) (n:=4) rfl rfl K
 simp -implicitDefEqProofs (disch:=first|decide|omega) [hst]
 refine Rg.ret (hP _ _ ?_)
 clear hP P'
 have f5:=fr_mk f4.wf [bs 0,bs 0,bs 0,bs 0] (insC fi)
 have b5:Bx (wr (new s4 [bs 0,bs 0,bs 0,bs 0]) s4.next 0 (insC fi)) s4.next (insC fi):=Bx.mk' rfl
 generalize wr (new s4 [bs 0,bs 0,bs 0,bs 0]) s4.next 0 (insC fi)=s5 at *
 clear hst
 have hl6:st.next+2<s4.next:=by have:=b3.lt;have:=f4.next;omega
 replace b1:=(b1.fr f4).fr f5
 replace b2:=(b2.fr f4).fr f5
 replace b3:=(b3.fr f4).fr f5
 replace f5:=(f3.trans f4).trans f5
 clear f4 f3
 generalize s4.next=i6 at *
 refine Ru.ds fun P' hP=>?_
 simp -implicitDefEqProofs (disch:=first|decide|omega) [b5.rd 1 _ rfl,b1.rd _ _ hrA,b5.rd 2 _ rfl,b1.rd _ _ hrB,cnv_bi _ _ hra,cnv_bi _ _ hrb]
 refine Rg.ret (hP _ _ ?_)
 clear hP P'
 refine Ru.at (fun ρ=>RwI st g fi ra rb i6 ρ s5 (fun _=>0)) ⟨f5,hl6,rfl,rfl,rfl,rfl,rfl,rfl,b1,b2,b3,b5⟩ fun ρ0 I=>?_
 clear b1 b2 b3 b5 f5
 refine Ru.rs fun P' hP=>?_
 simp -implicitDefEqProofs (disch:=first|decide|omega) [I.e3,I.e5,I.bG.rd 0 _ rfl,I.sto (i:=0) (by decide)]
 refine Rg.ret (hP _ _ ?_)
 clear hP P'
 replace I:=(I.wr hw (i:=0) (by decide) g.pc.toNat).env (ρ':=updE [] [] ρ0) rfl rfl rfl rfl rfl rfl
 generalize updE [] [] ρ0=ρ1 at *
 obtain ⟨f0,ef0⟩:∃ f0,f0=up (fun _=>0) 0 g.pc.toNat:=⟨_,rfl⟩
 rw [← ef0] at I
 refine Ru.seq (Ru.rs fun P' hP=>?_)
 simp -implicitDefEqProofs (disch:=first|decide|omega)
 refine Rg.ret (hP _ _ ?_)
 clear hP P'
 refine Ru.at (fun ρ=>RwI st g fi ra rb i6 ρ _ f0∧ρ q9=iv (0:Nat)) ⟨I.env rfl rfl rfl rfl rfl rfl,rfl⟩ fun ρ2 hE=>?_
 clear I
 obtain ⟨I,e9⟩:=hE
 refine Ru.block (Ru.lp [q3,q4,q5,q6,q7,q8] (fun j:Nat=>4 - j) (fun i ρ s=>RwI st g fi ra rb i6 ρ s (fun c=>if 1≤c∧c<1+i then g.r.getD (c - 1) 0 else f0 c)∧i≤4∧ρ q9=iv i)
  ⟨0,I.congr fun c hc=>by rw [if_neg (by omega)],by omega,e9⟩ fun i ρ s hk hI=>?_)
 clear e9 I
 obtain ⟨I,hi,e9⟩:=hI
 refine Ru.seq (Ru.rs fun P' hP=>?_)
 simp -implicitDefEqProofs (disch:=first|decide|omega) [e9]
 refine Rg.ret (hP _ _ ?_)
 clear hP P'
 refine Ru.cond rfl (fun h=>Ru.skip ?_) fun h=>Ru.exit ?_
 ·simp at h
  simp only [Then,Out]
  have hlt:i<4:=by omega
  have hri:=mst_r hg hlt
  have hr8:=getD_lt hg.2.2.1 (by omega) i
  generalize eri:g.r.getD i 0=ri at hri hr8
  have e1:((1:Int)+i).toNat=1+i:=by omega
  refine Ru.seq (Ru.block (Ru.r1 fun P' hP=>?_))
  simp -implicitDefEqProofs (disch:=first|decide|omega) [I.e3,I.e5,e9,I.bG.rd _ _ hri,cnv_bu _ _ hr8,e1,I.sto (i:=1+i) (by omega)]
  refine Rg.ret (hP _ _ ?_)
  clear hP P'
  refine Ru.r1 fun P' hP=>?_
  simp -implicitDefEqProofs (disch:=first|decide|omega) [e9]
  refine Rg.ret (hP _ _ ?_)
  clear hP P'
  refine ⟨by repeat first | exact hk | refine Keep.up (by rfl) ?_,i+1,by omega, ?_,by omega,rfl⟩
  refine RwI.congr ((I.wr hw (i:=1+i) (by omega) _).env rfl rfl rfl rfl rfl rfl) fun c hc=>?_
  show (if c=1+i then ri else (if 1≤c∧c<1+i then g.r.getD (c - 1) 0 else f0 c))=_
  by_cases hc1:c=1+i
  ·subst hc1;rw [if_pos rfl,if_pos (by omega),← eri];congr 1;omega
  ·rw [if_neg hc1]
   by_cases hc2:1≤c∧c<1+i
   ·rw [if_pos hc2,if_pos (by omega)]
   ·rw [if_neg hc2,if_neg (by omega)]
 simp at h
 have h4:i=4:=by omega
 subst h4
 simp only [Then,Out,if_true]
 obtain ⟨f1,ef1⟩:∃ f1,f1=(fun c=>if 1≤c∧c<1+4 then g.r.getD (c - 1) 0 else f0 c):=⟨_,rfl⟩
 rw [← ef1] at I
 refine Ru.seq (Ru.imp (Q:=fun x ρ s=>x=.normal∧RwI st g fi ra rb i6 ρ s (if 0<fi.o then up f1 (4+fi.o) 1 else f1)) ?_ ?_)
 ·have e4:((4:Int)+fi.o).toNat=4+fi.o:=by omega
  refine Ru.rs fun P' hP=>?_
  simp -implicitDefEqProofs (disch:=first|decide|omega) [I.e6,I.bI.rd 0 _ rfl]
  refine Rg.ret (hP _ _ ?_)
  clear hP P'
  refine Ru.cond rfl (fun h=>?_) fun h=>Ru.skip ?_
  ·simp at h
   refine Ru.r1 fun P' hP=>?_
   simp -implicitDefEqProofs (disch:=first|decide|omega) [I.e5,I.e6,I.bI.rd 0 _ rfl,cnv_bi fi.o _ (by omega),e4,I.sto (i:=4+fi.o) (by omega)]
   refine Rg.ret (hP _ _ ?_)
   clear hP P'
   rw [if_pos h]
   exact ⟨rfl,(I.wr hw (i:=4+fi.o) (by omega) 1).env rfl rfl rfl rfl rfl rfl⟩
  ·simp at h
   rw [if_neg (by omega)]
   exact ⟨rfl,I.env rfl rfl rfl rfl rfl rfl⟩
 rintro x ρ3 s6 ⟨rfl,I3⟩
 clear I hk e9 h hi
 have I:=I3
 clear I3
 simp only [Then]
 have eA:((13:Int)+fi.a).toNat=13+fi.a:=by omega
 have eB:((17:Int)+fi.b).toNat=17+fi.b:=by omega
 have hl6:=I.l6
 refine Ru.ds fun P' hP=>?_
 have I1:=I.wr hw (i:=13+fi.a) (by omega) 1
 have I2:=I1.wr hw (i:=17+fi.b) (by omega) 1
 simp -implicitDefEqProofs (disch:=first|decide|omega | (apply okS_t;decide;(simp (decide:=true) <;> omega))) [I.e5,I.e6,I.bI.rd 1 _ rfl,I.bI.rd 2 _ rfl,cnv_bi fi.a _ (by omega),cnv_bi fi.b _ (by omega),eA,eB,dS_ok (n:=50) (off:=13+fi.a) I.own,dS_ok (n:=50) (off:=17+fi.b) I1.own]
 refine Rg.ret (hP _ _ ?_)
 clear hP P'
 obtain ⟨f2,ef2⟩:∃ f2,f2=(fun c=>if 5≤c∧c<21 then bitV (codeV fi) (c - 5) else f1 c):=⟨_,rfl⟩
 have I:=(I2.congr (f':=f2) fun c hc=>by
  rw [ef2]
  show (if c=17+fi.b then 1 else (if c=13+fi.a then 1 else (if 0<fi.o then up f1 (4+fi.o) 1 else f1) c))=(if 5≤c∧c<21 then bitV (codeV fi) (c - 5) else f1 c)
  by_cases hc2:5≤c∧c<21
  ·rw [if_pos hc2,bit_code ho ha hb (by omega)]
   have z:f1 c=0:=by
    rw [ef1]
    show (if 1≤c∧c<1+4 then g.r.getD (c - 1) 0 else f0 c)=0
    rw [if_neg (by omega),ef0]
    show (if c=0 then g.pc.toNat else 0)=0
    rw [if_neg (by omega)]
   have e:(if 0<fi.o then up f1 (4+fi.o) 1 else f1) c=(if 0<fi.o then (if c=4+fi.o then 1 else 0) else 0):=by
    by_cases k3:0<fi.o
    ·rw [if_pos k3,if_pos k3]
     show (if c=4+fi.o then 1 else f1 c)=_
     rw [z]
    ·rw [if_neg k3,if_neg k3,z]
   rw [e]
   exact sel_bits hc2.1
  ·rw [if_neg hc2,if_neg (show ¬ c=17+fi.b by omega),if_neg (show ¬ c=13+fi.a by omega)]
   by_cases k3:0<fi.o
   ·rw [if_pos k3]
    show (if c=4+fi.o then 1 else f1 c)=_
    rw [if_neg (by omega)]
   ·rw [if_neg k3]).env (ρ':=updE [] [] ρ3) rfl rfl rfl rfl rfl rfl
 clear I1 I2
 generalize updE [] [] ρ3=ρ4 at *
 generalize wr (wr s6 (st.next+1+1) (13+fi.a) [us 1]) (st.next+1+1) (17+fi.b) [us 1]=s7 at *
 refine Ru.ds fun P' hP=>?_
 have hlt6:=I.bI.lt
 simp -implicitDefEqProofs (disch:=first|decide|omega) [I.e6,dN_low,I.bI.N (n:=4) rfl]
 refine Rg.dc (fun v=>v=uv (codeV fi)) I.fr.wf (by decide) (by decide) (code_ok (wf_setLow (h:=I.fr.wf)) fi ho ha hb) fun v s8 f8 hv8=>?_
 subst hv8
 replace I:=I.mv f8
 have I1:=I.wr hw (i:=21) (by decide) (codeV fi)
 have I2:=I1.wr hw (i:=22) (by decide) fi.m
 have I3:=I2.wr hw (i:=23) (by decide) ra
 have I4:=I3.wr hw (i:=24) (by decide) rb
 simp -implicitDefEqProofs (disch:=first|decide|omega | (apply okS_t;decide;(simp (decide:=true) <;> omega))) [I.e5,I.e6,I.e7,I.e8,dL_low,I.bI.rd 3 _ rfl,cnv_bu fi.m _ hm,dS_ok (n:=50) (off:=21) I.own,dS_ok (n:=50) (off:=22) I1.own,dS_ok (n:=50) (off:=23) I2.own,dS_ok (n:=50) (off:=24) I3.own]
 refine Rg.ret (hP _ _ ?_)
 clear hP P'
 replace I:=I4.env (ρ':=updE [] [] ρ4) rfl rfl rfl rfl rfl rfl
 clear I1 I2 I3 I4 f8 hlt6
 generalize updE [] [] ρ4=ρ5 at *
 generalize wr (wr (wr (wr s8 (st.next+1+1) 21 [us (codeV fi)]) (st.next+1+1) 22 [us fi.m]) (st.next+1+1) 23 [us ra]) (st.next+1+1) 24 [us rb]=s9 at *
 have q16:∀ K:V→R,binK .quo (iv rb) (iv 16) K=K (iv ((rb / 16:Nat):Int)):=fun K=>iquo0 rb 16 K (by decide) (by omega)
 have q16':0≤((rb / 16:Nat):Int)∧((rb / 16:Nat):Int)<18446744073709551616:=by omega
 have e16:((rb:Int) % 16).toNat=rb % 16:=by omega
 have e16':((rb:Int) / 16).toNat=rb / 16:=by omega
 have I1:=I.wr hw (i:=32) (by decide) (rb % 16)
 have I2:=I1.wr hw (i:=33) (by decide) (rb / 16)
 refine Ru.rs fun P' hP=>?_
 simp -implicitDefEqProofs (disch:=first|decide|omega) [I.e5,I.e8,irem0,q16,e16,e16',I.sto (i:=32) (by decide),I1.sto (i:=33) (by decide)]
 refine Rg.ret (hP _ _ ?_)
 clear hP P'
 have e5m:∀ K:V→R,ixA 16 1 (.sc (.ptr st.next (0+5))) (iv ((rb:Int) % 16)) K=K (.sc (.ptr st.next (5+rb % 16))):=fun K=>by
  rw [ixA_eq 16 1 K (by omega) (by omega),e16];simp
 refine Ru.rs fun P' hP=>?_
 simp -implicitDefEqProofs (disch:=first|decide|omega) [I2.e3,I2.e5,I2.e8,irem0,e5m,I2.bG.rd _ _ hrM,cnv_bu _ _ hcm,I2.sto (i:=34) (by decide),e16]
 refine Rg.ret (hP _ _ ?_)
 clear hP P'
 have I3:=I2.wr hw (i:=34) (by decide) cm
 replace I:=I3.env (ρ':=updE [] [] (updE [] [] ρ5)) rfl rfl rfl rfl rfl rfl
 generalize updE [] [] (updE [] [] ρ5)=ρ6 at *
 clear I1 I2 I3
 obtain ⟨f3,ef3⟩:∃ f3,f3=up (up (up (up (up (up f2 21 (codeV fi)) 22 fi.m) 23 ra) 24 rb) 32 (rb % 16)) 33 (rb / 16):=⟨_,rfl⟩
 rw [← ef3] at I
 generalize wr (wr (wr s9 (st.next+1+1) 32 [us (rb % 16)]) (st.next+1+1) 33 [us (rb / 16)]) (st.next+1+1) 34 [us cm]=s10 at *
 refine Ru.seq (Ru.imp (Q:=fun x ρ s=>x=.normal∧RwI st g fi ra rb i6 ρ s (up f3 34 (cellV fi g))) ?_ ?_)
 ·refine Ru.rs fun P' hP=>?_
  simp -implicitDefEqProofs (disch:=first|decide|omega) [I.e6,I.bI.rd 0 _ rfl]
  refine Rg.ret (hP _ _ ?_)
  clear hP P'
  refine Ru.cond rfl (fun h=>?_) fun h=>Ru.skip ?_
  ·simp at h
   have hra64:(ra:Int)<18446744073709551616:=by omega
   refine Ru.r1 fun P' hP=>?_
   simp -implicitDefEqProofs (disch:=first|decide|omega) [I.e5,I.e7,I.sto (i:=34) (by decide)]
   refine Rg.ret (hP _ _ ?_)
   clear hP P'
   rw [hcc,if_pos h]
   refine ⟨rfl,RwI.congr ((I.wr hw (i:=34) (by decide) ra).env rfl rfl rfl rfl rfl rfl) fun c hc=>?_⟩
   show (if c=34 then ra else (if c=34 then cm else f3 c))=(if c=34 then ra else f3 c)
   by_cases hc:c=34
   ·rw [if_pos hc,if_pos hc]
   ·rw [if_neg hc,if_neg hc,if_neg hc]
  ·simp at h
   rw [hcc,if_neg h]
   exact ⟨rfl,I.env rfl rfl rfl rfl rfl rfl⟩
 rintro x ρ7 s11 ⟨rfl,I3⟩
 clear I
 have I:=I3
 clear I3
 simp only [Then]
 have hcell:cellV fi g<256:=by rw [hcc];split <;> omega
 have hz:cmpV fi ra rb (cellV fi g)=zV fi g:=by
  rw [hzc,hcc]
  unfold cmpV
  by_cases h7:fi.o=7
  ·rw [if_neg (by omega),if_neg (by omega),if_neg (by omega),if_neg (by omega),if_neg (by omega),if_neg (by omega),if_neg (by omega),if_neg (by omega),if_neg (by omega),if_neg (by omega),if_neg (by omega),if_neg (by omega)]
  ·rw [if_neg h7]
 have r34:=I.bA.rd 34 _ (A50_get _ (by decide))
 rw [show up f3 34 (cellV fi g) 34=cellV fi g from rfl] at r34
 refine Ru.rs fun P' hP=>?_
 simp -implicitDefEqProofs (disch:=first|decide|omega) [I.e5,I.e6,I.e7,I.e8,I.bI.N (n:=4) rfl,r34]
 refine Rg.call (cmp_ok I.fr.wf fi hm hra hrb (cellV fi g)) fun v s12 hv12=>?_
 obtain ⟨f12,rfl⟩:=hv12
 rw [hz]
 simp -implicitDefEqProofs (disch:=first|decide|omega)
 refine Rg.ret (hP _ _ ?_)
 clear hP P'
 replace I:=(I.mv f12).env (ρ':=updE [q10,q11] [uv (zV fi g),uv (hV fi ra rb)] ρ7) rfl rfl rfl rfl rfl rfl
 have e10:updE [q10,q11] [uv (zV fi g),uv (hV fi ra rb)] ρ7 q10=uv (zV fi g):=rfl
 have e11:updE [q10,q11] [uv (zV fi g),uv (hV fi ra rb)] ρ7 q11=uv (hV fi ra rb):=rfl
 generalize updE [q10,q11] [uv (zV fi g),uv (hV fi ra rb)] ρ7=ρ8 at *
 have hh8:=hV_lt fi hra hrb
 have hz8:zV fi g<256:=by
  rw [hzc];unfold cmpV
  repeat' split
  all_goals omega
 have I1:=I.wr hw (i:=25) (by decide) (zV fi g)
 have I2:=I1.wr hw (i:=26) (by decide) (zV fi g % 16)
 have I3:=I2.wr hw (i:=27) (by decide) (zV fi g / 16)
 have I4:=I3.wr hw (i:=28) (by decide) (hV fi ra rb % 16)
 have I5:=I4.wr hw (i:=29) (by decide) (hV fi ra rb / 16)
 refine Ru.rs fun P' hP=>?_
 simp -implicitDefEqProofs (disch:=first|decide|omega) [I.e5,e10,e11,uquo0,I.sto (i:=25) (by decide),I1.sto (i:=26) (by decide),I2.sto (i:=27) (by decide),I3.sto (i:=28) (by decide),I4.sto (i:=29) (by decide)]
 refine Rg.ret (hP _ _ ?_)
 clear hP P'
 replace I:=I5.env (ρ':=updE [] [] ρ8) rfl rfl rfl rfl rfl rfl
 clear I1 I2 I3 I4 I5
 generalize updE [] [] ρ8=ρ9 at *
 generalize wr (wr (wr (wr (wr s12 (st.next+1+1) 25 [us (zV fi g)]) (st.next+1+1) 26 [us (zV fi g % 16)]) (st.next+1+1) 27 [us (zV fi g / 16)]) (st.next+1+1) 28 [us (hV fi ra rb % 16)]) (st.next+1+1) 29 [us (hV fi ra rb / 16)]=s13 at *
 have fin:∀ (ρ:Ev) (s:St) (f':Nat→Nat) (Q':X→Ev→St→Prop),Q' .ret=Q .ret→RwI st g fi ra rb i6 ρ s f'→A50 f'=(lineV fi g).map us →
   Ru (cF F) (.seq (.reg [] fun c r s K=>lN s n50 (r q5) fun v0=>sto s n50 (r q4) v0 fun s=>K [] s) .ret) ρ s Q':=fun ρ s f' Q' hq I he=>by
  have hbA:=I.bA
  rw [he] at hbA
  have hl:((lineV fi g).map us).length=50:=by simp [lineV_len]
  refine Ru.rs fun P' hP=>?_
  simp -implicitDefEqProofs (disch:=first|decide|omega) [I.e4,I.e5,hbA.N (n:=50) hl,I.bR.stoN (l':=(lineV fi g).map us) (n:=50) hl (A50_len _)]
  refine Rg.ret (hP _ _ ?_)
  clear hP P'
  have kw:=I.bR.kpw I.fr.wf (i:=0) ((lineV fi g).map us)
  exact Ru.ret (hq▸hQ _ _ (resP.cells (n:=49) (id:=st.next+1) (off:=0) (l:=(lineV fi g).map us) I.e4 ((I.bR.setN (l':=(lineV fi g).map us) (by rw [hl,A50_len])).N hl) ⟨kw.fr I.fr (fun id h=>by cases h;omega) hw,rfl⟩))
 refine Ru.seq (Ru.rs fun P' hP=>?_)
 simp -implicitDefEqProofs +contextual (disch:=first|decide|omega) [-Bool.not_or,-Bool.not_and,I.e6,I.e7,I.bI.rd 0 _ rfl]
 refine Rg.ret (hP _ _ ?_)
 clear hP P'
 refine Ru.cond rfl (fun h=>?_) fun h=>Ru.skip ?_
 ·simp at h
  obtain ⟨h8,h0⟩:=h
  have hra64:(ra:Int)<18446744073709551616:=by omega
  refine Ru.r1 fun P' hP=>?_
  simp -implicitDefEqProofs (disch:=first|decide|omega) [I.e5,I.e7]
  refine Rg.call (rinv3_ok I.fr.wf ra) fun v s14 hv14=>?_
  obtain ⟨f14,rfl⟩:=hv14
  replace I:=I.mv f14
  have hpw:=inv_pow hra
  rw [if_neg h0] at hpw
  rw [← hpw]
  have I1:=I.wr hw (i:=30) (by decide) (inv3 ra)
  simp -implicitDefEqProofs (disch:=first|decide|omega) [I.sto (i:=30) (by decide),I1.sto (i:=31) (by decide)]
  refine Rg.ret (hP _ _ ?_)
  clear hP P'
  refine fin _ _ _ _ rfl ((I1.wr hw (i:=31) (by decide) 1).env rfl rfl rfl rfl rfl rfl) ?_
  unfold lineV
  rw [era,erb,if_pos h8,if_pos h8,show min ra 1=1 by omega,ef3,ef2,ef1,ef0]
  kernel_rfl
 ·simp at h
  refine fin _ _ _ _ rfl (I.env rfl rfl rfl rfl rfl rfl) ?_
  have e1:(if fi.o=8 then inv3 ra else 0)=0:=by
   by_cases h8:fi.o=8
   ·have h0:=h h8
    have hpw:=inv_pow hra
    rw [if_pos h0] at hpw
    rw [if_pos h8,hpw]
   ·rw [if_neg h8]
  have e2:(if fi.o=8 then min ra 1 else 0)=0:=by
   by_cases h8:fi.o=8
   ·have h0:=h h8
    rw [if_pos h8,h0];rfl
   ·rw [if_neg h8]
  unfold lineV
  rw [era,erb,e1,e2,ef3,ef2,ef1,ef0]
  show A50 _=_
  kernel_rfl
end
section
variable {st s t:St}{n i id off:Nat}
theorem sat_low {x:S}{n z:Nat}{cs:List S} (h:Sat s x n z cs) {k:Nat}:Sat (setLow s k) x n z cs:=by cases s;exact h
def cmp3 (a b:Nat):Int:=if a<b then -1 else if b<a then 1 else 0
theorem nanU_ok (hw:WfS st) (a:Nat):Ca (cF F) 58 [uv a] st (fun v s=>s=st∧v=bl false):=by
 refine Ca.of (hf:=cf58) rfl rfl [q0] [.tmp q2] rfl rfl rfl fun Q hQ=>?_
 refine Ru.rs fun P' hP=>?_
 simp -implicitDefEqProofs (disch:=first|decide|omega)
 refine Rg.ret (hP _ _ ?_)
 clear hP P'
 refine Ru.rs fun P' hP=>?_
 simp -implicitDefEqProofs (disch:=first|decide|omega)
 refine Rg.ret (hP _ _ ?_)
 clear hP P'
 exact Ru.ret (hQ _ _ (.one rfl ⟨rfl,rfl⟩))
theorem nanI_ok (hw:WfS st) (a:Int):Ca (cF F) 59 [iv a] st (fun v s=>s=st∧v=bl false):=by
 refine Ca.of (hf:=cf59) rfl rfl [q0] [.tmp q2] rfl rfl rfl fun Q hQ=>?_
 refine Ru.rs fun P' hP=>?_
 simp -implicitDefEqProofs (disch:=first|decide|omega)
 refine Rg.ret (hP _ _ ?_)
 clear hP P'
 refine Ru.rs fun P' hP=>?_
 simp -implicitDefEqProofs (disch:=first|decide|omega)
 refine Rg.ret (hP _ _ ?_)
 clear hP P'
 exact Ru.ret (hQ _ _ (.one rfl ⟨rfl,rfl⟩))
theorem cmpU_ok (hw:WfS st) (a b:Nat):Ca (cF F) 38 [uv a,uv b] st (fun v s=>Fr st s∧v=iv (cmp3 a b)):=by
 refine Ca.of (hf:=cf38) rfl rfl [q0,q1] [.tmp q4] rfl rfl rfl fun Q hQ=>?_
 refine Ru.rs fun P' hP=>?_
 simp -implicitDefEqProofs (disch:=first|decide|omega)
 refine Rg.ret (hP _ _ ?_)
 clear hP P'
 refine Ru.rs fun P' hP=>?_
 refine Rg.call (nanU_ok hw a) fun v s1 hv=>?_
 obtain ⟨rfl,rfl⟩:=hv
 refine Rg.ret (hP _ _ ?_)
 clear hP P'
 refine Ru.rs fun P' hP=>?_
 refine Rg.call (nanU_ok hw b) fun v s1 hv=>?_
 obtain ⟨rfl,rfl⟩:=hv
 refine Rg.ret (hP _ _ ?_)
 clear hP P'
 refine Ru.seq (Ru.rs fun P' hP=>?_)
 refine Rg.ret (hP _ _ ?_)
 clear hP P'
 refine Ru.cond rfl (fun h=>by cases h) fun _=>Ru.skip ?_
 simp only [Then]
 refine Ru.seq (Ru.rs fun P' hP=>?_)
 refine Rg.ret (hP _ _ ?_)
 clear hP P'
 refine Ru.cond rfl (fun h=>by cases h) fun _=>Ru.skip ?_
 simp only [Then]
 refine Ru.seq (Ru.rs fun P' hP=>?_)
 simp -implicitDefEqProofs (disch:=first|decide|omega)
 refine Rg.ret (hP _ _ ?_)
 clear hP P'
 refine Ru.cond rfl (fun h=>?_) fun h=>Ru.skip ?_
 ·simp at h
  refine Ru.rs fun P' hP=>?_
  refine Rg.ret (hP _ _ ?_)
  clear hP P'
  exact Ru.ret (hQ _ _ (.one rfl ⟨Fr.refl hw,congrArg iv (by unfold cmp3;rw [if_pos h];rfl)⟩))
 simp at h
 simp only [Then]
 refine Ru.seq (Ru.rs fun P' hP=>?_)
 simp -implicitDefEqProofs (disch:=first|decide|omega)
 refine Rg.ret (hP _ _ ?_)
 clear hP P'
 refine Ru.cond rfl (fun h2=>?_) fun h2=>Ru.skip ?_
 ·simp at h2
  refine Ru.rs fun P' hP=>?_
  refine Rg.ret (hP _ _ ?_)
  clear hP P'
  exact Ru.ret (hQ _ _ (.one rfl ⟨Fr.refl hw,congrArg iv (by unfold cmp3;rw [if_neg (by omega),if_pos h2];rfl)⟩))
 simp at h2
 simp only [Then]
 refine Ru.rs fun P' hP=>?_
 refine Rg.ret (hP _ _ ?_)
 clear hP P'
 exact Ru.ret (hQ _ _ (.one rfl ⟨Fr.refl hw,congrArg iv (by unfold cmp3;rw [if_neg (by omega),if_neg (by omega)];rfl)⟩))
theorem cmpI_ok (hw:WfS st) (a b:Nat):Ca (cF F) 39 [iv a,iv b] st (fun v s=>Fr st s∧v=iv (cmp3 a b)):=by
 refine Ca.of (hf:=cf39) rfl rfl [q0,q1] [.tmp q4] rfl rfl rfl fun Q hQ=>?_
 refine Ru.rs fun P' hP=>?_
 simp -implicitDefEqProofs (disch:=first|decide|omega)
 refine Rg.ret (hP _ _ ?_)
 clear hP P'
 refine Ru.rs fun P' hP=>?_
 refine Rg.call (nanI_ok hw a) fun v s1 hv=>?_
 obtain ⟨rfl,rfl⟩:=hv
 refine Rg.ret (hP _ _ ?_)
 clear hP P'
 refine Ru.rs fun P' hP=>?_
 refine Rg.call (nanI_ok hw b) fun v s1 hv=>?_
 obtain ⟨rfl,rfl⟩:=hv
 refine Rg.ret (hP _ _ ?_)
 clear hP P'
 refine Ru.seq (Ru.rs fun P' hP=>?_)
 refine Rg.ret (hP _ _ ?_)
 clear hP P'
 refine Ru.cond rfl (fun h=>by cases h) fun _=>Ru.skip ?_
 simp only [Then]
 refine Ru.seq (Ru.rs fun P' hP=>?_)
 refine Rg.ret (hP _ _ ?_)
 clear hP P'
 refine Ru.cond rfl (fun h=>by cases h) fun _=>Ru.skip ?_
 simp only [Then]
 refine Ru.seq (Ru.rs fun P' hP=>?_)
 simp -implicitDefEqProofs (disch:=first|decide|omega)
 refine Rg.ret (hP _ _ ?_)
 clear hP P'
 refine Ru.cond rfl (fun h=>?_) fun h=>Ru.skip ?_
 ·simp at h
  refine Ru.rs fun P' hP=>?_
  refine Rg.ret (hP _ _ ?_)
  clear hP P'
  exact Ru.ret (hQ _ _ (.one rfl ⟨Fr.refl hw,congrArg iv (by unfold cmp3;rw [if_pos h];rfl)⟩))
 simp at h
 simp only [Then]
 refine Ru.seq (Ru.rs fun P' hP=>?_)
 simp -implicitDefEqProofs (disch:=first|decide|omega)
 refine Rg.ret (hP _ _ ?_)
 clear hP P'
 refine Ru.cond rfl (fun h2=>?_) fun h2=>Ru.skip ?_
 ·simp at h2
  refine Ru.rs fun P' hP=>?_
  refine Rg.ret (hP _ _ ?_)
  clear hP P'
  exact Ru.ret (hQ _ _ (.one rfl ⟨Fr.refl hw,congrArg iv (by unfold cmp3;rw [if_neg (by omega),if_pos h2];rfl)⟩))
 simp at h2
 simp only [Then]
 refine Ru.rs fun P' hP=>?_
 refine Rg.ret (hP _ _ ?_)
 clear hP P'
 exact Ru.ret (hQ _ _ (.one rfl ⟨Fr.refl hw,congrArg iv (by unfold cmp3;rw [if_neg (by omega),if_neg (by omega)];rfl)⟩))
theorem or_ok (hw:WfS st) {y:S} (a b:Int) (hy:Sat st y 2 1 [is a,is b]):Ca (cF F) 37 [.sc y] st (fun v s=>Fr st s∧v=iv (if a≠0 then a else b)):=by
 obtain ⟨id,off,c,rfl,hr⟩:=hy.rd (by decide)
 have r0:=hr 0 _ rfl
 have r1:=hr 1 _ rfl
 refine Ca.of (hf:=cf37) rfl rfl [q0] [.tmp q2] rfl rfl rfl fun Q hQ=>?_
 refine Ru.rs fun P' hP=>?_
 simp -implicitDefEqProofs (disch:=first|decide|omega)
 refine Rg.ret (hP _ _ ?_)
 clear hP P'
 refine Ru.rs fun P' hP=>?_
 simp -implicitDefEqProofs (disch:=first|decide|omega)
 refine Rg.ret (hP _ _ ?_)
 clear hP P'
 refine Ru.seq (Ru.rs fun P' hP=>?_)
 simp -implicitDefEqProofs (disch:=first|decide|omega)
 refine Rg.ret (hP _ _ ?_)
 clear hP P'
 refine Ru.at (fun ρ=>ρ q3=iv 0∧ρ q6=.sc (.slice id off 2 c 1)∧ρ q7=iv 2∧ρ q8=iv (0:Nat)) ⟨rfl,rfl,rfl,rfl⟩ fun ρ0 hE=>?_
 obtain ⟨e3,e6,e7,e8⟩:=hE
 refine Ru.block (Ru.lp [q3,q6,q7] (fun j:Nat=>2 - j) (fun i ρ s=>s=st∧i≤2∧ρ q8=iv i∧(0<i→a=0)∧(1<i→b=0)) ⟨0,rfl,by omega,e8,by omega,by omega⟩ fun i ρ s hk hI=>?_)
 clear e8
 obtain ⟨rfl,hi,e8,h0,h1⟩:=hI
 refine Ru.rs fun P' hP=>?_
 simp -implicitDefEqProofs (disch:=first|decide|omega) [hk.e,e7,e8]
 refine Rg.ret (hP _ _ ?_)
 clear hP P'
 refine Ru.seq (Ru.cond rfl (fun h=>Ru.skip ?_) fun h=>Ru.exit ?_)
 rotate_left
 ·simp at h
  simp only [Then,Out,if_true]
  refine Ru.rs fun P' hP=>?_
  simp -implicitDefEqProofs (disch:=first|decide|omega) [hk.e,e3]
  refine Rg.ret (hP _ _ ?_)
  clear hP P'
  refine Ru.ret (hQ _ _ (.one rfl ⟨Fr.refl hw,congrArg iv ?_⟩))
  rw [if_neg (by have:=h0 (by omega);omega),h1 (by omega)]
 simp at h
 simp only [Then,Out]
 have hlt:i<2:=by omega
 have hel:rd s id (off+i)=some (is (if i=0 then a else b)):=by
  rcases (show i=0∨i=1 by omega) with rfl | rfl
  ·exact r0
  ·exact r1
 generalize ex:(if i=0 then a else b)=x at *
 refine Ru.seq (Ru.block (Ru.rs fun P' hP=>?_))
 simp -implicitDefEqProofs (disch:=first|decide|omega) [hk.e,e6,e8,hel]
 refine Rg.ret (hP _ _ ?_)
 clear hP P'
 refine Ru.rs fun P' hP=>?_
 simp -implicitDefEqProofs (disch:=first|decide|omega) [hk.e,e3]
 refine Rg.ret (hP _ _ ?_)
 clear hP P'
 refine Ru.cond rfl (fun h2=>?_) fun h2=>Ru.skip ?_
 ·simp at h2
  refine Ru.rs fun P' hP=>?_
  simp -implicitDefEqProofs (disch:=first|decide|omega)
  refine Rg.ret (hP _ _ ?_)
  clear hP P'
  refine Ru.ret (hQ _ _ (.one rfl ⟨Fr.refl hw,congrArg iv ?_⟩))
  rcases (show i=0∨i=1 by omega) with rfl | rfl
  ·rw [if_pos rfl] at ex;rw [if_pos (by omega)];exact ex.symm
  ·rw [if_neg (by decide)] at ex;rw [if_neg (by have:=h0 (by omega);omega)];exact ex.symm
 ·simp at h2
  refine Ru.r1 fun P' hP=>?_
  simp -implicitDefEqProofs (disch:=first|decide|omega) [e8]
  refine Rg.ret (hP _ _ ?_)
  clear hP P'
  refine ⟨by repeat first | exact hk | refine Keep.up (by rfl) ?_,i+1,by omega,rfl,by omega,rfl,fun _=>?_,fun _=>?_⟩
  ·rcases (show i=0∨i=1 by omega) with rfl | rfl
   ·rw [if_pos rfl] at ex;omega
   ·exact h0 (by omega)
  ·rcases (show i=0∨i=1 by omega) with rfl | rfl
   ·omega
   ·rw [if_neg (by decide)] at ex;omega
def rowsF (R:List Row):Nat→List S:=fun i=>(R.getD i []).map us
theorem rowsF_get {R:List Row} (h:Wide R) {i j:Nat} (hi:i<R.length) (hj:j<50):(rowsF R i)[j]?=some (us (get2 R i j)):=by
 have hl:=h.getD hi
 unfold rowsF get2
 simp [List.getD_eq_getElem?_getD,hl,hj] at hl ⊢
 rw [List.getElem?_eq_getElem (by rw [hl];exact hj)]
 simp
theorem rowsF_len {R:List Row} (h:Wide R) {i:Nat} (hi:i<R.length):(rowsF R i).length=50:=by
 unfold rowsF;rw [List.length_map,h.getD hi]
theorem rowsF_set {R:List Row}{i:Nat} (hi:i<R.length) (r:Row) (k:Nat):rowsF (R.set i r) k=if k=i then r.map us else rowsF R k:=by
 unfold rowsF
 rw [List.getD_eq_getElem?_getD,List.getElem?_set]
 by_cases h:k=i
 ·subst h;rw [if_pos rfl,if_pos hi,if_pos rfl];rfl
 ·rw [if_neg (fun e=>h e.symm),if_neg h,← List.getD_eq_getElem?_getD]
theorem Tb.rows {R:List Row}{rid n:Nat} (h:Tb s rid n 50 (rowsF R)) (hw:Wide R) (hn:R.length=n) {i j:Nat} (hi:i<n) (hj:j<50):Ev.rd s rid (i * 50+j)=some (us (get2 R i j)) :=
 h.rd i hi j _ (rowsF_get hw (by omega) hj)
theorem Tb.setR {R:List Row}{rid n:Nat} (h:Tb s rid n 50 (rowsF R)) (hn:R.length=n) {i j:Nat} (hi:i<n) (hj:j<50) (x:Nat):Tb (wr s rid (i * 50+j) [us x]) rid n 50 (rowsF (setC R i j x)):=by
 refine (h.set1 hi hj (us x)).congr fun k hk=>?_
 unfold setC
 rw [rowsF_set (by omega)]
 by_cases he:k=i
 ·rw [if_pos he,if_pos he,List.map_set];rfl
 ·rw [if_neg he,if_neg he]
theorem setC_setC {R:List Row}{i a x b y:Nat} (hi:i<R.length):setC (setC R i a x) i b y=R.set i (((R.getD i []).set a x).set b y):=by
 unfold setC
 have:(R.set i ((R.getD i []).set a x)).getD i []=(R.getD i []).set a x:=by
  rw [List.getD_eq_getElem?_getD,List.getElem?_set,if_pos rfl,if_pos hi];rfl
 rw [this,List.set_set]
theorem set_setC {R:List Row}{i b y:Nat}{r:Row} (hi:i<R.length):setC (R.set i r) i b y=R.set i (r.set b y):=by
 unfold setC
 have:(R.set i r).getD i []=r:=by
  rw [List.getD_eq_getElem?_getD,List.getElem?_set,if_pos rfl,if_pos hi];rfl
 rw [this,List.set_set]
abbrev isN (i:Nat):S:=is (i:Int)
def unS:S→Nat
 | .int _ a=>a.toNat
 | _=>0
instance (R0:List Row) (a b:Nat):Decidable (keyLt R0 a b):=by unfold keyLt;infer_instance
def ltS (R0:List Row) (x y:S):Bool:=decide (keyLt R0 (unS x) (unS y))
theorem ltS_ltr (R0:List Row):Ltr (ltS R0) :=
 ⟨fun x y h=>by
  unfold ltS at *
  rw [decide_eq_true_iff] at h
  rw [decide_eq_false_iff_not]
  exact fun k=>keyLt_asym h k,fun x y z h k=>by
  unfold ltS at *
  rw [decide_eq_true_iff] at *
  unfold keyLt at *
  omega⟩
theorem ltS_dis (R0:List Row) (n:Nat):Dis (ltS R0) ((List.range n).map isN):=by
 unfold Dis
 rw [List.pairwise_map]
 refine List.Pairwise.imp (fun {a b} h=>?_) List.pairwise_lt_range
 unfold ltS
 simp only [decide_eq_true_iff]
 show keyLt R0 a b∨keyLt R0 b a
 unfold keyLt
 omega
theorem sorted_is {R0:List Row}{n:Nat} (hn:n=R0.length) (h32:∀ i,i<R0.length→get2 R0 i 32<16) {es:List S} (hp:es.Perm ((List.range n).map isN)) (hs:Srt (ltS R0) es 0 es.length) :
  es=(ordV R0).map isN:=by
 have e1:es=(es.map unS).map isN:=by
  rw [List.map_map]
  refine Eq.symm ((List.map_congr_left (g:=id) fun x hx=>?_).trans (List.map_id _))
  obtain ⟨k,_,rfl⟩:=List.mem_map.1 (hp.mem_iff.1 hx)
  rfl
 have e2:(es.map unS).Perm (List.range n):=by
  have:=hp.map unS
  rw [List.map_map] at this
  refine this.trans (List.Perm.of_eq ((List.map_congr_left (g:=id) fun x hx=>rfl).trans (List.map_id _)))
 have e3:(es.map unS).Pairwise (keyLt R0):=by
  rw [List.pairwise_map]
  refine List.pairwise_iff_getElem.2 fun i j hi hj hij=>?_
  have:=hs i j (Nat.zero_le _) hij hj
  unfold el ltS at this
  rw [decide_eq_true_iff,List.getD_eq_getElem?_getD,List.getD_eq_getElem?_getD,List.getElem?_eq_getElem hi,List.getElem?_eq_getElem hj] at this
  exact this
 rw [e1,ordV_len h32 e3 (hn▸e2)]
theorem cls_ok {R:List Row} (hw:WfS st) (hwd:Wide R) {bx rid n:Nat}{c:Option Nat} (hn:R.length=n) (hb:rd st bx 0=some (.slice rid 0 n c 50)) (T:Tb st rid n 50 (rowsF R)) {a b:Nat} (ha:a<n) (hb2:b<n) :
  Ca (cF F) 36 [iv a,iv b,.sc (.ptr bx 0)] st (fun v s=>Fr st s∧∃ k:Int,v=iv k∧(k<0↔keyLt R a b)):=by
 refine Ca.of (hf:=cf36) rfl rfl [q0,q1,q2] [.tmp q5] rfl rfl rfl fun Q hQ=>?_
 refine Ru.rs fun P' hP=>?_
 simp -implicitDefEqProofs (disch:=first|decide|omega)
 refine Rg.ret (hP _ _ ?_)
 clear hP P'
 refine Ru.ds fun P' hP=>?_
 simp -implicitDefEqProofs (disch:=first|decide|omega) [hb,T.ix ha,T.ix hb2,T.rows hwd hn ha (j:=32) (by decide),T.rows hwd hn hb2 (j:=32) (by decide)]
 refine Rg.dc (fun v=>v=iv (cmp3 (get2 R a 32) (get2 R b 32))) hw (by decide) (by decide) (cmpU_ok (wf_setLow (h:=hw)) _ _) fun v s1 f1 hv1=>?_
 subst hv1
 simp -implicitDefEqProofs (disch:=first|decide|omega)
 refine Rg.dc (fun v=>v=iv (cmp3 a b)) f1.wf (by decide) (by decide) (cmpI_ok (wf_setLow (h:=f1.wf)) _ _) fun v s2 f2 hv2=>?_
 subst hv2
 generalize ex:cmp3 (get2 R a 32) (get2 R b 32)=x at *
 generalize ey:cmp3 a b=y at *
 have f3:Fr s2 (new s2 [is x,is y]):=(Fr.refl f2.wf).new _
 have hS:Sat (new s2 [is x,is y]) (.slice s2.next 0 2 (some 2) 1) 2 1 [is x,is y]:=Sat.new rfl fun m h=>by cases h;decide
 have hfill:∀ tm K,fillK tm K [(0,1,.c (iv x)),(1,1,.c (iv y))] [is 0,is 0]=K [is x,is y]:=fun tm K=>by
  rw [fill_sc tm K _ 0 (is x) _ (by decide),fill_sc tm K _ 1 (is y) _ (by simp [setRange]),fill_nil];rfl
 simp -implicitDefEqProofs (disch:=first|decide|omega) [buildS_eq,hfill]
 refine Rg.dc (fun v=>v=iv (if x≠0 then x else y)) f3.wf (by decide) (by decide) (or_ok (wf_setLow (h:=f3.wf)) x y (sat_low hS)) fun v s4 f4 hv4=>?_
 subst hv4
 refine Rg.ret (hP _ _ (Ru.ret (hQ _ _ (.one rfl ⟨((f1.trans f2).trans f3).trans f4,_,rfl, ?_⟩))))
 subst ex ey
 unfold cmp3 keyLt
 repeat' split
 all_goals omega
end
section
variable {st s t:St}{n i id off:Nat}
theorem Bx.mkz1 (x:S) (n:Nat):Bx (mkz s n 1 [x]) s.next (List.replicate n x):=by
 refine ⟨?_,fun i y hy=>?_,by simp⟩
 ·rw [List.length_replicate];have:=own_mkz (st:=s) (n:=n) [x] 1;rwa [Nat.mul_one] at this
 ·have hi:=some_lt hy
  rw [List.length_replicate] at hi
  rw [rd_mkz,if_pos rfl,if_pos (by omega)]
  show ([x])[i % 1]?=some y
  rw [Nat.mod_one]
  rw [List.getElem?_replicate,if_pos hi] at hy
  exact hy
theorem makeFunc1 {st:St} (f:Nat) (x:S) (c:CallK) (r:Ev) (K:V→St→R):h_op4_makeFunc f [(.c (.sc x))] c r st K=K (.sc (capsOf f [x])) st:=rfl
theorem Sm.rd {o:Nat} (h:Sm o s t) (hi:id≠o) {x:S} (hx:Ev.rd s id i=some x):Ev.rd t id i=some x:=by
 unfold Ev.rd at *
 cases hb:s.heap.get id with
 | none=>rw [hb] at hx;cases hx
 | some b=>rw [hb] at hx;rw [h.old id b hi hb];exact hx
theorem Tb.sm {o z:Nat}{f:Nat→List S} (h:Tb s id n z f) (k:Sm o s t) (hi:id≠o):Tb t id n z f:=by
 obtain ⟨⟨m,⟨b,h1,h2⟩,h3⟩,h4,h5,h6⟩:=h
 exact ⟨⟨m,⟨b,k.old id b hi h1,h2⟩,h3⟩,Nat.lt_of_lt_of_le h4 k.next,h5,fun i hi' j x hx=>k.rd hi (h6 i hi' j x hx)⟩
noncomputable def zPd:PdN:=⟨78,101,79,85,83,82,80,102,103,57,87,110,105,104,81,84,56,35,86⟩
theorem pdAt:PdAt F zPd:=⟨⟨rfl,rfl⟩,⟨rfl,rfl⟩,⟨rfl,rfl⟩,⟨rfl,rfl⟩,⟨rfl,rfl⟩,⟨rfl,rfl⟩,⟨rfl,rfl⟩,⟨rfl,rfl⟩,⟨rfl,rfl⟩,⟨rfl,rfl⟩,⟨rfl,rfl⟩,⟨rfl,rfl⟩,⟨rfl,rfl⟩,⟨rfl,rfl⟩,⟨rfl,rfl⟩,⟨rfl,rfl⟩,⟨rfl,rfl⟩,⟨rfl,rfl⟩⟩
def ordI (n i:Nat):List S:=(List.range i).map isN ++ List.replicate (n - i) (is 0)
theorem ordI_len (h:i≤n):(ordI n i).length=n:=by simp [ordI];omega
theorem ordI_0:ordI n 0=List.replicate n (is 0):=rfl
theorem ordI_n:ordI n n=(List.range n).map isN:=by simp [ordI]
theorem ordI_s (h:i<n):(ordI n i).set i (isN i)=ordI n (i+1):=by
 unfold ordI
 rw [show n - i=(n - (i+1))+1 by omega,List.replicate_succ,List.set_append_right _ _ (by simp),List.range_succ,List.map_append,List.append_assoc]
 simp
theorem sort_call {R0:List Row}{rid n bx oid:Nat}{c:Option Nat} (hw:WfS s) (hwd:Wide R0) (hn:R0.length=n) (hn':n<256) (h32:∀ i,i<R0.length→get2 R0 i 32<16)
  (hb:rd s bx 0=some (.slice rid 0 n c 50)) (T:Tb s rid n 50 (rowsF R0)) (bO:Bx s oid ((List.range n).map isN)) (h1:bx≠oid) (h2:rid≠oid) :
  Ca (cF F) 35 [.sc (.slice oid 0 n (some n) 1),.sc (capsOf 36 [.ptr bx 0])] s (fun _ s'=>Kp (some oid) s s'∧Bx s' oid ((ordV R0).map isN)):=by
 have hl:((List.range n).map isN).length=n:=by simp
 have H:Cmp F s oid (capsOf 36 [.ptr bx 0]) (ltS R0) ((List.range n).map isN) :=
  ⟨hw,ltS_ltr R0,ltS_dis R0 n,_,_,rfl,rfl,fun t ht sm x y hx hy=>by
   obtain ⟨a,ha,rfl⟩:=List.mem_map.1 hx
   obtain ⟨b,hb',rfl⟩:=List.mem_map.1 hy
   refine (cls_ok ht hwd hn (sm.rd h1 hb) (T.sm sm h2) (List.mem_range.1 ha) (List.mem_range.1 hb')).imp fun v s' h=>⟨h.1, ?_⟩
   obtain ⟨k,hk,hk2⟩:=h.2
   exact ⟨k,hk,hk2.trans (by unfold ltS;rw [decide_eq_true_iff];exact Iff.rfl)⟩⟩
 have O:On s oid 0 n (capsOf 36 [.ptr bx 0]) (ltS R0) ((List.range n).map isN) s ((List.range n).map isN) :=
  ⟨⟨hw,hl▸bO.own,by rw [hl];omega,bO.lt,fun i hi=>by rw [Nat.zero_add];exact bO.rd i _ (el_get hi)⟩,.refl _,Sm.refl _ _,by rw [hl];omega⟩
 have:=sortF_ok (cap:=some n) pdAt H O (by rw [hl];exact hn')
 rw [hl] at this
 refine Ca.imp this fun v s' h=>?_
 obtain ⟨es',⟨hO,hk,hm⟩,hs⟩:=h
 have hlen:es'.length=n:=by rw [hO.perm.length_eq,hl]
 have e:=sorted_is hn.symm h32 hO.perm (hlen.symm▸hs)
 subst e
 refine ⟨hk,⟨?_,fun i x hx=>?_,hO.cs.lt⟩⟩
 ·rw [hlen];exact hO.cs.own
 ·have:=hO.cs.rd i (some_lt hx)
  rw [Nat.zero_add] at this
  rw [this]
  have e2:=el_get (some_lt hx)
  rw [hx] at e2
  exact e2.symm
theorem progR_at {R0:List Row}{ord:List Nat} (h:i<R0.length):(progR R0 ord i).getD i []=R0.getD i []:=by
 unfold progR
 rw [map_range_getD h,if_neg (by omega),if_neg (by omega)]
end
section
variable {st s t:St}{n i id off:Nat}
theorem get2_set {R:List Row}{i j:Nat}{r:Row} (hi:i<R.length) (k:Nat):get2 (R.set i r) k j=if k=i then r.getD j 0 else get2 R k j:=by
 unfold get2
 have e1:(R.set i r).getD k []=if k=i then r else R.getD k []:=by
  rw [List.getD_eq_getElem?_getD,List.getElem?_set]
  by_cases h1:i=k
  ·rw [if_pos h1,if_pos hi,if_pos h1.symm];rfl
  ·rw [if_neg h1,if_neg (fun e=>h1 e.symm),← List.getD_eq_getElem?_getD]
 rw [e1]
 split <;> rfl
theorem W0_v {R0:List Row}{ord:List Nat} (j:Nat) (r:Row) (h:r.length=50):(W0 R0 ord j r).getD 37 0=vV R0 ord j:=by
 unfold W0
 rw [getD_set _ _ _ _ (by omega),getD_set_eq _ _ _ (by simp [h])]
theorem W0_w {R0:List Row}{ord:List Nat} (j:Nat) (r:Row) (h:r.length=50):(W0 R0 ord j r).getD 38 0=wV R0 ord j:=by
 unfold W0
 rw [getD_set_eq _ _ _ (by simp [h])]
structure SoI (st:St) (rid n:Nat) (c:Option Nat) (oid:Nat) (ord:List Nat) (ρ:Ev) (s:St) (R:List Row):Prop where
 kp:Kp (some rid) st s
 e1:ρ q1=.sc (.ptr st.next 0)
 e24:ρ q24=.sc (.slice oid 0 n (some n) 1)
 e25:ρ q25=iv n
 ne:rid<st.next
 no:st.next<oid
 b1:Bx s st.next [.slice rid 0 n c 50]
 bO:Bx s oid (ord.map isN)
 T:Tb s rid n 50 (rowsF R)
section
variable {rid:Nat}{c:Option Nat}{oid:Nat}{ord:List Nat}{ρ ρ':Ev}{R R':List Row}
theorem SoI.env (h:SoI st rid n c oid ord ρ s R) (h1:ρ' q1=ρ q1) (h2:ρ' q24=ρ q24) (h3:ρ' q25=ρ q25):SoI st rid n c oid ord ρ' s R :=
 ⟨h.kp,h1.trans h.e1,h2.trans h.e24,h3.trans h.e25,h.ne,h.no,h.b1,h.bO,h.T⟩
theorem SoI.wr (h:SoI st rid n c oid ord ρ s R) (hn:R.length=n) {i j:Nat} (hi:i<n) (hj:j<50) (x:Nat):SoI st rid n c oid ord ρ (wr s rid (i * 50+j) [us x]) (setC R i j x):=by
 have k:=h.T.kpw h.kp.wf (i * 50+j) [us x]
 have:=h.ne;have:=h.no
 exact ⟨h.kp.trans k,h.e1,h.e24,h.e25,h.ne,h.no,h.b1.kp k (ne_some (by omega)),h.bO.kp k (ne_some (by omega)),h.T.setR hn hi hj x⟩
theorem SoI.eqv (h:SoI st rid n c oid ord ρ s R) (e:R=R'):SoI st rid n c oid ord ρ s R':=e▸h
end
theorem sorted_ok (hw:WfS st) {R0:List Row} (hwd:Wide R0) {rid n:Nat}{c:Option Nat} (hn:R0.length=n) (hn1:0<n) (hn':n<256) (h32:∀ i,i<R0.length→get2 R0 i 32<16) (T:Tb st rid n 50 (rowsF R0)) :
  Ca (cF F) 16 [.sc (.slice rid 0 n c 50)] st (fun _ s=>Kp (some rid) st s∧Tb s rid n 50 (rowsF (progR R0 (ordV R0) n))):=by
 refine Ca.ofU (hf:=cf16) rfl rfl [q0] [] rfl rfl rfl fun Q hQ=>?_
 refine Ru.rs fun P' hP=>?_
 simp -implicitDefEqProofs (disch:=first|decide|omega)
 refine Rg.ret (hP _ _ ?_)
 clear hP P'
 have f1:Fr st (new st [.slice rid 0 n c 50]):=(Fr.refl hw).new _
 have b1:Bx (new st [.slice rid 0 n c 50]) st.next [.slice rid 0 n c 50]:=Bx.new
 have n1:(new st [.slice rid 0 n c 50]).next=st.next+1:=rfl
 have hrid:=T.lt
 replace T:=T.fr f1
 generalize new st [.slice rid 0 n c 50]=s1 at *
 refine Ru.rs fun P' hP=>?_
 simp -implicitDefEqProofs (disch:=first|decide|omega) [b1.rd 0 _ rfl,xM_eq' (st:=s1) 1 8 n n [is 0]]
 refine Rg.ret (hP _ _ ?_)
 clear hP P'
 have f2:=fr_mkz (n:=n) (Fr.refl f1.wf) [is 0] 1
 have bO:=Bx.mkz1 (s:=s1) (is 0) n
 rw [n1] at bO ⊢
 show Ru _ _ _ (mkz s1 n 1 [is 0]) _
 replace b1:=b1.fr f2
 replace T:=T.fr f2
 replace f2:=f1.trans f2
 generalize mkz s1 n 1 [is 0]=s2 at *
 clear f1 n1 s1
 rw [← ordI_0 (n:=n)] at bO
 refine Ru.seq (Ru.rs fun P' hP=>?_)
 simp -implicitDefEqProofs (disch:=first|decide|omega)
 refine Rg.ret (hP _ _ ?_)
 clear hP P'
 refine Ru.at (fun ρ=>ρ q1=.sc (.ptr st.next 0)∧ρ q2=.sc (.slice (st.next+1) 0 n (some n) 1)∧ρ q12=iv n∧ρ q13=iv (0:Nat)) ⟨rfl,rfl,rfl,rfl⟩ fun ρ0 hE=>?_
 obtain ⟨e1,e2,e12,e13⟩:=hE
 refine Ru.block (Ru.lp [q1,q2,q12] (fun j:Nat=>n - j) (fun i ρ s=>Fr st s∧Bx s st.next [.slice rid 0 n c 50]∧Bx s (st.next+1) (ordI n i)∧Tb s rid n 50 (rowsF R0)∧i≤n∧ρ q13=iv i)
  ⟨0,f2,b1,bO,T,by omega,e13⟩ fun i ρ s hk hI=>?_)
 clear e13 f2 b1 bO T s2
 obtain ⟨hf,b1,bO,T,hi,e13⟩:=hI
 refine Ru.rs fun P' hP=>?_
 simp -implicitDefEqProofs (disch:=first|decide|omega) [hk.e,e12,e13]
 refine Rg.ret (hP _ _ ?_)
 clear hP P'
 refine Ru.seq (Ru.cond rfl (fun h=>Ru.skip ?_) fun h=>Ru.exit ?_)
 ·simp at h
  simp only [Then,Out]
  have hio:i<(ordI n i).length:=by rw [ordI_len hi];exact h
  refine Ru.seq (Ru.block (Ru.rs fun P' hP=>?_))
  simp -implicitDefEqProofs (disch:=first|decide|omega) [e13]
  refine Rg.ret (hP _ _ ?_)
  clear hP P'
  refine Ru.r1 fun P' hP=>?_
  simp -implicitDefEqProofs (disch:=first|decide|omega) [hk.e,e2,bO.sto hio]
  refine Rg.ret (hP _ _ ?_)
  clear hP P'
  have k:=bO.kpw hf.wf (i:=i) [isN i]
  have bO2:=bO.set hio (isN i)
  rw [ordI_s h] at bO2
  refine Ru.r1 fun P' hP=>?_
  simp -implicitDefEqProofs (disch:=first|decide|omega) [e13]
  refine Rg.ret (hP _ _ ?_)
  clear hP P'
  exact ⟨by repeat first | exact hk | refine Keep.up (by rfl) ?_,i+1,by omega,k.fr hf (fun id h=>by cases h;omega) hw,b1.kp k (ne_some (by omega)),bO2,T.kp k (ne_some (by omega)),by omega,rfl⟩
 simp at h
 have hin:n=i:=by omega
 subst hin
 simp only [Then,Out,if_true]
 rw [ordI_n] at bO
 refine Ru.rs fun P' hP=>?_
 simp -implicitDefEqProofs (disch:=first|decide|omega) [hk.e,e1,e2,makeFunc1]
 refine Rg.call (sort_call hf.wf hwd hn hn' h32 (b1.rd 0 _ rfl) T bO (by omega) (by omega)) fun v s3 hv3=>?_
 obtain ⟨k3,bO3⟩:=hv3
 refine Rg.ret (hP _ _ ?_)
 clear hP P'
 have b3:=b1.kp k3 (ne_some (by omega))
 have T3:=T.kp k3 (ne_some (by omega))
 have k4:Kp (some rid) st s3:=(hf.kp _).more k3 (by omega) hw
 clear b1 bO T k3 hf
 obtain ⟨ord,eord⟩:∃ ord,ord=ordV R0:=⟨_,rfl⟩
 rw [← eord] at bO3 hQ
 have hol:ord.length=n:=by rw [eord,ordV_length h32,hn]
 have hom:∀ a∈ord,a<n:=fun a ha=>by rw [eord] at ha;rw [← hn];exact (ordV_mem h32 a).1 ha
 refine Ru.rs fun P' hP=>?_
 simp -implicitDefEqProofs (disch:=first|decide|omega) [hk.e,e2]
 refine Rg.ret (hP _ _ ?_)
 clear hP P'
 refine Ru.at (fun ρ=>SoI st rid n c (st.next+1) ord ρ s3 R0∧ρ q26=iv (0:Nat)) ⟨⟨k4,(hk.e q1 rfl).trans e1,rfl,rfl,hrid,by omega,b3,bO3,T3⟩,rfl⟩ fun ρ1 hE=>?_
 clear k4 b3 bO3 T3 hk e13 h hi s e1 e2 e12 eord
 obtain ⟨I,e26⟩:=hE
 generalize st.next+1=oid at *
 have hu:∀ j,j<n→uV R0 ord j<16:=fun j hj=>by
  unfold uV
  refine h32 _ ?_
  rw [List.getD_eq_getElem?_getD,List.getElem?_eq_getElem (by omega),hn]
  exact hom _ (List.getElem_mem _)
 have ht:∀ j,j<n→tV ord j<n:=fun j hj=>by
  unfold tV
  rw [List.getD_eq_getElem?_getD,List.getElem?_eq_getElem (by omega)]
  exact hom _ (List.getElem_mem _)
 refine Ru.block (Ru.lp [] (fun j:Nat=>n - j) (fun i ρ s=>SoI st rid n c oid ord ρ s (progR R0 ord i)∧i≤n∧ρ q26=iv i)
  ⟨0,I.eqv progR_0.symm,by omega,e26⟩ fun i ρ s hk hI=>?_)
 clear e26 I s3 hk
 obtain ⟨I,hi,e26⟩:=hI
 refine Ru.rs fun P' hP=>?_
 simp -implicitDefEqProofs (disch:=first|decide|omega) [I.e25,e26]
 refine Rg.ret (hP _ _ ?_)
 clear hP P'
 refine Ru.seq (Ru.cond rfl (fun h=>Ru.skip ?_) fun h=>Ru.exit ?_)
 rotate_left
 ·simp at h
  have hin:n=i:=by omega
  subst hin
  simp only [Then,Out,if_true]
  exact (hQ _ _ (.nil0 ⟨I.kp,I.T⟩)).2
 simp at h
 simp only [Then,Out]
 have hRl:(progR R0 ord i).length=n:=by rw [progR_len,hn]
 have hRw:=progR_wide hwd (ord:=ord) i
 have hoi:(ord.map isN)[i]?=some (isN (ord.getD i 0)):=by simp [List.getD_eq_getElem?_getD,hol,h]
 have hfr:ord.getD i 0<n:=ht i h
 have g32:get2 (progR R0 ord i) (ord.getD i 0) 32=uV R0 ord i:=progR_low (by omega) (by decide)
 have g34:get2 (progR R0 ord i) (ord.getD i 0) 34=vV R0 ord i:=progR_low (by omega) (by decide)
 have g11:get2 (progR R0 ord i) (ord.getD i 0) 11=wV R0 ord i:=progR_low (by omega) (by decide)
 have eti:tV ord i=ord.getD i 0:=rfl
 generalize ord.getD i 0=fr at *
 refine Ru.seq (Ru.block ?_)
 refine Ru.rs fun P' hP=>?_
 simp -implicitDefEqProofs (disch:=first|decide|omega) [I.e24,e26,I.bO.rd _ _ hoi]
 refine Rg.ret (hP _ _ ?_)
 clear hP P'
 refine Ru.rs fun P' hP=>?_
 simp -implicitDefEqProofs (disch:=first|decide|omega) [I.e1,I.b1.rd 0 _ rfl,I.T.ix h]
 refine Rg.ret (hP _ _ ?_)
 clear hP P'
 refine Ru.at (fun ρ=>SoI st rid n c oid ord ρ s (progR R0 ord i)∧ρ q4=iv i∧ρ q5=iv fr∧ρ q6=.sc (.ptr rid (i * 50))∧ρ q26=iv i) ⟨I.env rfl rfl rfl,rfl,rfl,rfl,e26⟩ fun ρ2 hE=>?_
 clear I e26
 obtain ⟨I,e4,e5,e6,e26⟩:=hE
 have hm50:=mul_le_of_lt h 50
 obtain ⟨m,ho,hm⟩:=I.T.own
 have hlt1:=I.ne
 have I1:=I.wr hRl h (j:=35) (by decide) (uV R0 ord i)
 have I2:=I1.wr (setC_len.trans hRl) h (j:=36) (by decide) fr
 have I3:=I2.wr (setC_len.trans (setC_len.trans hRl)) h (j:=37) (by decide) (vV R0 ord i)
 have I4:=I3.wr (setC_len.trans (setC_len.trans (setC_len.trans hRl))) h (j:=38) (by decide) (wV R0 ord i)
 refine Ru.ds fun P' hP=>?_
 simp -implicitDefEqProofs (disch:=first|decide|omega | (apply okS_t;decide;(simp (decide:=true) <;> omega))) [I.e1,e5,e6,I.b1.rd 0 _ rfl,I.T.ix hfr,I.T.rows hRw hRl hfr (j:=32) (by decide),I.T.rows hRw hRl hfr (j:=34) (by decide),I.T.rows hRw hRl hfr (j:=11) (by decide),g32,g34,g11,dS_ok (off:=i * 50+35) ho (by omega),dS_ok (off:=i * 50+36) ho.wr (by omega),dS_ok (off:=i * 50+37) ho.wr.wr (by omega),dS_ok (off:=i * 50+38) ho.wr.wr.wr (by omega)]
 refine Rg.ret (hP _ _ ?_)
 clear hP P'
 have hr50:(R0.getD i []).length=50:=hwd.getD (by omega)
 have eR4:setC (setC (setC (setC (progR R0 ord i) i 35 (uV R0 ord i)) i 36 fr) i 37 (vV R0 ord i)) i 38 (wV R0 ord i)=(progR R0 ord i).set i (W0 R0 ord i (R0.getD i [])):=by
  show setC (setC (setC ((progR R0 ord i).set i (((progR R0 ord i).getD i []).set 35 (uV R0 ord i))) i 36 fr) i 37 (vV R0 ord i)) i 38 (wV R0 ord i)=_
  rw [set_setC (by omega),set_setC (by omega),set_setC (by omega),progR_at (by omega),← eti];rfl
 replace I:=I4.eqv eR4
 clear I1 I2 I3 I4 ho eR4 g32 g34 g11
 generalize wr (wr (wr (wr s rid (i * 50+35) [us (uV R0 ord i)]) rid (i * 50+36) [us fr]) rid (i * 50+37) [us (vV R0 ord i)]) rid (i * 50+38) [us (wV R0 ord i)]=s5 at *
 have hl4:((progR R0 ord i).set i (W0 R0 ord i (R0.getD i []))).length=n:=by rw [List.length_set,hRl]
 have hw4:Wide ((progR R0 ord i).set i (W0 R0 ord i (R0.getD i []))):=hRw.set (by rw [W0_len,hr50])
 have r38:=I.T.rows hw4 hl4 h (j:=38) (by decide)
 have r37:=I.T.rows hw4 hl4 h (j:=37) (by decide)
 rw [get2_set (by omega),if_pos rfl,W0_w _ _ hr50] at r38
 rw [get2_set (by omega),if_pos rfl,W0_v _ _ hr50] at r37
 have hp1l:(prog1 R0 ord i).length=n:=by unfold prog1;rw [List.length_set,hRl]
 have hp1w:Wide (prog1 R0 ord i):=hRw.set (by rw [W1_len,hr50])
 refine Ru.seq (Ru.imp (Q:=fun x ρ s=>x=.normal∧SoI st rid n c oid ord ρ s (prog1 R0 ord i)∧ρ q4=iv i∧ρ q6=.sc (.ptr rid (i * 50))∧ρ q26=iv i) ?_ ?_)
 ·refine Ru.rs fun P' hP=>?_
  simp -implicitDefEqProofs (disch:=first|decide|omega) [e6,r38]
  refine Rg.ret (hP _ _ ?_)
  clear hP P'
  refine Ru.cond rfl (fun h0=>?_) fun h0=>Ru.skip ?_
  ·simp at h0
   obtain ⟨m,ho,hm⟩:=I.T.own
   refine Ru.d1 fun P' hP=>?_
   simp -implicitDefEqProofs (disch:=first|decide|omega | (apply okS_t;decide;(simp (decide:=true) <;> omega))) [e6,r37,dS_ok (off:=i * 50+41) ho (by omega)]
   refine Rg.ret (hP _ _ ?_)
   clear hP P'
   refine ⟨rfl,((I.wr hl4 h (j:=41) (by decide) (vV R0 ord i)).eqv ?_).env rfl rfl rfl,e4,e6,e26⟩
   rw [set_setC (by omega)]
   unfold prog1 W1
   rw [if_pos h0]
  ·simp at h0
   refine ⟨rfl,(I.eqv ?_).env rfl rfl rfl,e4,e6,e26⟩
   unfold prog1 W1
   rw [if_neg h0]
 rintro x ρ3 s6 ⟨rfl,I3,e4',e6',e26'⟩
 clear I e4 e6 e26 r38 r37 e5
 have I:=I3
 clear I3
 simp only [Then]
 have fin:∀ (ρ:Ev) (s:St),SoI st rid n c oid ord ρ s (progR R0 ord (i+1))→ρ q26=iv i→Ru (cF F) (.reg [q26] fun c r s K=>binK .add (r q26) I1 fun v0=>K [v0] s) ρ s (Then (fun ρ'' s=>Keep [] ρ'' ρ1∧∃ a',n - a'<n - i∧SoI st rid n c oid ord ρ'' s (progR R0 ord a')∧a'≤n∧ρ'' q26=iv a') (Out n2 Q)):=fun ρ s I e26=>by
  refine Ru.r1 fun P' hP=>?_
  simp -implicitDefEqProofs (disch:=first|decide|omega) [e26]
  refine Rg.ret (hP _ _ ?_)
  clear hP P'
  exact ⟨(fun q hq=>by cases hq),i+1,by omega,I.env rfl rfl rfl,by omega,rfl⟩
 refine Ru.seq (Ru.rs fun P' hP=>?_)
 simp -implicitDefEqProofs (disch:=first|decide|omega) [e4']
 refine Rg.ret (hP _ _ ?_)
 clear hP P'
 refine Ru.cond rfl (fun h0=>Ru.exit ?_) fun h0=>Ru.skip ?_
 ·simp at h0
  have:i=0:=by omega
  subst this
  simp only [Then,Out,if_true]
  exact fin _ _ ((I.eqv prog1_0).env rfl rfl rfl) e26'
 simp at h0
 simp only [Then]
 obtain ⟨k,rfl⟩:∃ k,i=k+1:=⟨i - 1,by omega⟩
 have ek:((k+1:Nat):Int) - 1=(k:Nat):=by omega
 have hkn:k<n:=by omega
 have hrk:(R0.getD k []).length=50:=hwd.getD (by omega)
 have gk:(prog1 R0 ord (k+1)).getD k []=W1 R0 ord k (R0.getD k []):=by
  unfold prog1
  rw [List.getD_eq_getElem?_getD,List.getElem?_set,if_neg (by omega),← List.getD_eq_getElem?_getD]
  unfold progR
  rw [map_range_getD (by omega),if_neg (by omega),if_pos (by omega)]
 have gk1:(prog1 R0 ord (k+1)).getD (k+1) []=W1 R0 ord (k+1) (R0.getD (k+1) []):=by
  unfold prog1
  rw [List.getD_eq_getElem?_getD,List.getElem?_set,if_pos rfl,if_pos (by omega)];rfl
 have a35:get2 (prog1 R0 ord (k+1)) k 35=uV R0 ord k:=by unfold get2;rw [gk];exact W1_u _ _ hrk
 have a36:get2 (prog1 R0 ord (k+1)) k 36=tV ord k:=by unfold get2;rw [gk];exact W1_t _ _ hrk
 have b35:get2 (prog1 R0 ord (k+1)) (k+1) 35=uV R0 ord (k+1):=by unfold get2;rw [gk1];exact W1_u _ _ hr50
 have b36:get2 (prog1 R0 ord (k+1)) (k+1) 36=tV ord (k+1):=by unfold get2;rw [gk1];exact W1_t _ _ hr50
 have u0:=hu k hkn
 have u1:=hu (k+1) h
 have t0:=ht k hkn
 have t1:=ht (k+1) h
 refine Ru.rs fun P' hP=>?_
 simp -implicitDefEqProofs (disch:=first|decide|omega) [I.e1,e4',ek,I.b1.rd 0 _ rfl,I.T.ix hkn]
 refine Rg.ret (hP _ _ ?_)
 clear hP P'
 have hmk:=mul_le_of_lt hkn 50
 have ra35:=I.T.rows hp1w hp1l hkn (j:=35) (by decide)
 have ra36:=I.T.rows hp1w hp1l hkn (j:=36) (by decide)
 have rb35:=I.T.rows hp1w hp1l h (j:=35) (by decide)
 have rb36:=I.T.rows hp1w hp1l h (j:=36) (by decide)
 rw [a35] at ra35
 rw [a36] at ra36
 rw [b35] at rb35
 rw [b36] at rb36
 refine Ru.ds fun P' hP=>?_
 simp -implicitDefEqProofs (disch:=first|decide|omega) [e6',ra35,rb35]
 refine Rg.ret (hP _ _ ?_)
 clear hP P'
 have hs64:sub64 (tV ord (k+1)) (tV ord k)<18446744073709551616:=by unfold sub64;omega
 have hs64':sub64 (uV R0 ord (k+1)) (uV R0 ord k)<18446744073709551616:=by unfold sub64;omega
 obtain ⟨m,ho,hm⟩:=I.T.own
 have hps:=prog1_s (R0:=R0) (ord:=ord) (k+1) (by omega)
 rw [show k+1 - 1=k by omega] at hps
 refine Ru.cond rfl (fun h1=>?_) fun h1=>?_
 ·simp at h1
  refine Ru.d1 fun P' hP=>?_
  simp -implicitDefEqProofs (disch:=first|decide|omega | (apply okS_t;decide;(simp (decide:=true) <;> omega))) [e6',ra36,rb36,usub0,dS_ok (off:=k * 50+39) ho (by omega),dS_ok (off:=k * 50+40) ho.wr (by omega)]
  refine Rg.ret (hP _ _ ?_)
  clear hP P'
  have I1:=I.wr hp1l hkn (j:=39) (by decide) 1
  have I2:=I1.wr (setC_len.trans hp1l) hkn (j:=40) (by decide) (sub64 (sub64 (tV ord (k+1)) (tV ord k)) 1)
  refine fin _ _ ((I2.eqv ?_).env rfl rfl rfl) e26'
  rw [← hps,setC_setC (by omega),gk]
  unfold W2 dV
  rw [if_pos h1,if_pos h1]
 ·simp at h1
  refine Ru.d1 fun P' hP=>?_
  simp -implicitDefEqProofs (disch:=first|decide|omega | (apply okS_t;decide;(simp (decide:=true) <;> omega))) [e6',ra35,rb35,usub0,dS_ok (off:=k * 50+40) ho (by omega)]
  refine Rg.ret (hP _ _ ?_)
  clear hP P'
  have I1:=I.wr hp1l hkn (j:=40) (by decide) (sub64 (sub64 (uV R0 ord (k+1)) (uV R0 ord k)) 1)
  refine fin _ _ ((I1.eqv ?_).env rfl rfl rfl) e26'
  rw [← hps]
  unfold setC W2 dV
  rw [gk,if_neg h1,if_neg h1]
end
section
variable {st s t:St}{n i id off:Nat}
def ordC (R:List Row) (c:Nat):List Nat:=(List.range c).flatMap fun c=>(List.range R.length).filter fun i=>decide (get2 R i 32=c)
def ordK (R:List Row) (c i:Nat):List Nat:=ordC R c ++ (List.range i).filter fun i=>decide (get2 R i 32=c)
theorem ordK_0 (R:List Row) (c:Nat):ordK R c 0=ordC R c:=by simp [ordK]
theorem ordK_n (R:List Row) (c:Nat):ordK R c R.length=ordC R (c+1):=by
 unfold ordK ordC
 rw [List.range_succ,List.flatMap_append];simp
theorem ordK_s (R:List Row) (c i:Nat):ordK R c (i+1)=if get2 R i 32=c then ordK R c i ++ [i] else ordK R c i:=by
 unfold ordK
 rw [List.range_succ,List.filter_append]
 by_cases h:get2 R i 32=c
 ·rw [if_pos h];simp [h]
 ·rw [if_neg h];simp [h]
theorem ordK_len (R:List Row) (c i:Nat) (h:c≤16) (hi:i≤R.length):(ordK R c i).length≤17 * R.length:=by
 have key:∀ c,(ordC R c).length≤c * R.length:=by
  intro c
  induction c with
  | zero=>simp [ordC]
  | succ c ih =>
   have e:ordC R (c+1)=ordC R c ++ (List.range R.length).filter fun i=>decide (get2 R i 32=c):=by
    unfold ordC;rw [List.range_succ,List.flatMap_append];simp
   rw [e,List.length_append,Nat.succ_mul]
   have:=List.length_filter_le (fun i=>decide (get2 R i 32=c)) (List.range R.length)
   simp at this ⊢
   omega
 unfold ordK
 rw [List.length_append]
 have h1:=key c
 have h2:=List.length_filter_le (fun i=>decide (get2 R i 32=c)) (List.range i)
 have h3:c * R.length≤16 * R.length:=Nat.mul_le_mul_right _ h
 simp at h2
 omega
theorem rsort_ok (hw:WfS st) {R:List Row} (hwd:Wide R) {rid n:Nat}{c:Option Nat} (hn:R.length=n) (hn':n<256) (T:Tb st rid n 50 (rowsF R)) :
  Ca (cF F) 23 [.sc (.slice rid 0 n c 50)] st (fun v s=>Fr st s∧∃ y,v=.sc y∧Sat s y (ordV R).length 1 ((ordV R).map isN)∧∀ id,sid y=some id→st.next≤id):=by
 refine Ca.of (hf:=cf23) rfl rfl [q0] [.tmp q2] rfl rfl rfl fun Q hQ=>?_
 refine Ru.rs fun P' hP=>?_
 refine Rg.ret (hP _ _ ?_)
 clear hP P'
 refine Ru.rs fun P' hP=>?_
 refine Rg.ret (hP _ _ ?_)
 clear hP P'
 refine Ru.seq (Ru.rs fun P' hP=>?_)
 simp -implicitDefEqProofs (disch:=first|decide|omega)
 refine Rg.ret (hP _ _ ?_)
 clear hP P'
 refine Ru.at (fun ρ=>ρ q0=.sc (.slice rid 0 n c 50)∧ρ q3=.sc .nils∧ρ q4=uv 0) ⟨rfl,rfl,rfl⟩ fun ρ0 hE=>?_
 obtain ⟨e0,e3,e4⟩:=hE
 refine Ru.block (Ru.lp [q0] (fun j:Nat=>16 - j) (fun k ρ s=>Fr st s∧k≤16∧ρ q4=uv k∧∃ y,ρ q3=.sc y∧Sat s y (ordC R k).length 1 ((ordC R k).map isN)∧Grw st.next s y (ordC R k).length 1)
  ⟨0,Fr.refl hw,by omega,e4,.nils,e3,Sat.nil 1,Grw.nil _ _⟩ fun k ρ s hk hI=>?_)
 clear e3 e4
 obtain ⟨hf,hi,e4,y,e3,hs,hg⟩:=hI
 refine Ru.seq (Ru.rs fun P' hP=>?_)
 simp -implicitDefEqProofs (disch:=first|decide|omega) [e4]
 refine Rg.ret (hP _ _ ?_)
 clear hP P'
 refine Ru.cond rfl (fun h=>Ru.skip ?_) fun h=>Ru.exit ?_
 rotate_left
 ·simp at h
  have:k=16:=by omega
  subst this
  simp only [Then,Out,if_true]
  refine Ru.rs fun P' hP=>?_
  simp -implicitDefEqProofs (disch:=first|decide|omega) [e3]
  refine Rg.ret (hP _ _ ?_)
  clear hP P'
  exact Ru.ret (hQ _ _ (.one rfl ⟨hf,y,rfl,hs,hg.sid⟩))
 simp at h
 simp only [Then,Out]
 refine Ru.seq (Ru.block ?_)
 refine Ru.rs fun P' hP=>?_
 simp -implicitDefEqProofs (disch:=first|decide|omega)
 refine Rg.ret (hP _ _ ?_)
 clear hP P'
 refine Ru.at (fun ρ'=>Keep [q0] ρ' ρ0∧ρ' q3=.sc y∧ρ' q4=uv k∧ρ' q5=iv (0:Nat)) ⟨by repeat first | exact hk | refine Keep.up (by rfl) ?_,e3,e4,rfl⟩ fun ρ1 hE=>?_
 clear hk e3 e4
 obtain ⟨hk,e3,e4,e5⟩:=hE
 refine Ru.block (Ru.lp [q0,q4] (fun j:Nat=>n - j) (fun i ρ s=>Fr st s∧i≤n∧ρ q5=iv i∧∃ y,ρ q3=.sc y∧Sat s y (ordK R k i).length 1 ((ordK R k i).map isN)∧Grw st.next s y (ordK R k i).length 1)
  ⟨0,hf,by omega,e5,y,e3,by rw [ordK_0];exact hs,by rw [ordK_0];exact hg⟩ fun i ρ' s hk2 hI=>?_)
 clear e3 e5 hf hs hg y
 obtain ⟨hf,hi2,e5,y,e3,hs,hg⟩:=hI
 have e0':=hk.e q0 rfl
 refine Ru.seq (Ru.rs fun P' hP=>?_)
 simp -implicitDefEqProofs (disch:=first|decide|omega) [hk2.e,hk.e,e0,e5]
 refine Rg.ret (hP _ _ ?_)
 clear hP P'
 refine Ru.cond rfl (fun h2=>Ru.skip ?_) fun h2=>Ru.exit ?_
 rotate_left
 ·simp at h2
  have:n=i:=by omega
  subst this
  simp only [Then,Out,if_true]
  rw [← hn,ordK_n] at hs hg
  refine Ru.r1 fun P' hP=>?_
  simp -implicitDefEqProofs (disch:=first|decide|omega) [hk2.e,e4]
  refine Rg.ret (hP _ _ ?_)
  clear hP P'
  exact ⟨by refine Keep.up (by rfl) (Keep.up (by rfl) (Keep.via (by rfl) hk2 hk)),k+1,by omega,hf,by omega,rfl,y,e3,hs,hg⟩
 simp at h2
 simp only [Then,Out]
 have T1:=T.fr hf
 have r32:=T1.rows hwd hn h2 (j:=32) (by decide)
 have hol:=ordK_len R k i (by omega) (by omega)
 refine Ru.seq (Ru.block (Ru.imp (Q:=fun x ρ2 s2=>x=.normal∧Keep [q0,q4] ρ2 ρ1∧ρ2 q5=iv i∧Fr st s2∧∃ y,ρ2 q3=.sc y∧Sat s2 y (ordK R k (i+1)).length 1 ((ordK R k (i+1)).map isN)∧Grw st.next s2 y (ordK R k (i+1)).length 1) ?_ ?_))
 ·refine Ru.rs fun P' hP=>?_
  simp -implicitDefEqProofs (disch:=first|decide|omega) [hk2.e,hk.e,e0,e4,e5,T1.ix h2,r32]
  refine Rg.ret (hP _ _ ?_)
  clear hP P'
  refine Ru.cond rfl (fun h3=>?_) fun h3=>Ru.skip ?_
  ·simp at h3
   obtain ⟨y2,s2,hA,f2,hs2,hg2,k2,hy2,hnx⟩:=app_build (a:=st) (st:=s) (b:=8) (k:=1) (nc:=[isN i]) hf hw hs hg (by omega) rfl (by omega) (by omega)
   have hfill:∀ tm K,fillK tm K [(0,1,.c (iv i))] [is 0]=K [isN i]:=fun tm K=>by
    rw [fill_sc tm K _ 0 (is i) _ (by decide),fill_nil];rfl
   refine Ru.r1 fun P' hP=>?_
   simp -implicitDefEqProofs (disch:=first|decide|omega) [e3,e5,buildS_eq,hfill,hA]
   refine Rg.ret (hP _ _ ?_)
   clear hP P'
   refine ⟨rfl,by repeat first | exact hk2 | refine Keep.up (by rfl) ?_,e5,f2,y2,rfl, ?_⟩
   rw [ordK_s,if_pos h3]
   have e:(ordK R k i ++ [i]).length=(ordK R k i).length+1:=by simp
   rw [e,List.map_append]
   exact ⟨hs2,hg2⟩
  ·simp at h3
   refine ⟨rfl,by repeat first | exact hk2 | refine Keep.up (by rfl) ?_,e5,hf,y,e3, ?_⟩
   rw [ordK_s,if_neg h3]
   exact ⟨hs,hg⟩
 rintro x ρ2 s2 ⟨rfl,hk3,e5',f2,y2,e3',hs2,hg2⟩
 simp only [Out,Then]
 refine Ru.r1 fun P' hP=>?_
 simp -implicitDefEqProofs (disch:=first|decide|omega) [e5']
 refine Rg.ret (hP _ _ ?_)
 clear hP P'
 exact ⟨by repeat first | exact hk3 | refine Keep.up (by rfl) ?_,i+1,by omega,f2,by omega,rfl,y2,e3',hs2,hg2⟩
end
section
variable {st s t u:St}{n i id off a mid:Nat}
structure Old (a mid:Nat) (s t:St):Prop where
 next:s.next≤t.next
 old:∀ id b,id<a→id≠mid→s.heap.get id=some b→t.heap.get id=some b
theorem Old.kp {o:Option Nat} (k:Kp o s t) (h:∀ id,o=some id→a≤id∨id=mid):Old a mid s t :=
 ⟨k.next,fun id b h1 h2 hb=>k.old id b (fun he=>by rcases h id he with h | h <;> omega) hb⟩
theorem Old.fr (k:Fr s t):Old a mid s t:=⟨k.next,fun id b _ _ hb=>k.old id b hb⟩
theorem Old.trans (h:Old a mid s t) (k:Old a mid t u):Old a mid s u:=⟨Nat.le_trans h.next k.next,fun id b h1 h2 hb=>k.old id b h1 h2 (h.old id b h1 h2 hb)⟩
theorem Old.rd (k:Old a mid s t) (h1:id<a) (h2:id≠mid) {x:S} (hx:Ev.rd s id i=some x):Ev.rd t id i=some x:=by
 unfold Ev.rd at *
 cases hb:s.heap.get id with
 | none=>rw [hb] at hx;cases hx
 | some b=>rw [hb] at hx;rw [k.old id b h1 h2 hb];exact hx
theorem Bx.old {l:List S} (h:Bx s id l) (k:Old a mid s t) (h1:id<a) (h2:id≠mid):Bx t id l:=by
 obtain ⟨⟨b,e1,e2⟩,h3,h4⟩:=h
 exact ⟨⟨b,k.old id b h1 h2 e1,e2⟩,fun i x hx=>k.rd h1 h2 (h3 i x hx),Nat.lt_of_lt_of_le h4 k.next⟩
theorem Tb.old {z:Nat}{f:Nat→List S} (h:Tb s id n z f) (k:Old a mid s t) (h1:id<a) (h2:id≠mid):Tb t id n z f:=by
 obtain ⟨⟨m,⟨b,e1,e2⟩,e3⟩,h4,h5,h6⟩:=h
 exact ⟨⟨m,⟨b,k.old id b h1 h2 e1,e2⟩,e3⟩,Nat.lt_of_lt_of_le h4 k.next,h5,fun i hi j x hx=>k.rd h1 h2 (h6 i hi j x hx)⟩
theorem Sat.old {y:S}{m z:Nat}{cs:List S} (h:Sat s y m z cs) (k:Old a mid s t) (h1:∀ id,sid y=some id→id<a∧id≠mid):Sat t y m z cs:=by
 obtain ⟨e1,e2 | ⟨id,off,c,b,rfl,e3,e4,e5⟩⟩:=h
 ·exact ⟨e1,.inl e2⟩
 ·have:=h1 id rfl
  exact ⟨e1,.inr ⟨id,off,c,b,rfl,e3,k.old id b this.1 this.2 e4,e5⟩⟩
theorem fill_reg {C:Nat→CallK}{R:List Row}{rid tb j:Nat}{c:Option Nat}{yp y:S}{ys cs:List S}{ρ:Ev}{qt qr qj qi:Pth}{P:List V→St→Prop}
  (hf:Fr u s) (hu:WfS u) (hum:u.next≤mid) (hua:u.next≤a) (ha:a≤s.next) (bT:Bx s tb [yp,.slice mid 0 50 (some 50) 1]) (htb:tb<a) (htm:tb≠mid) (hma:mid<a) (bM:Bx s mid ys) (hys:ys.length=50) (hj:j<50) (hy:ys[j]?=some y)
  (hs:Sat s y i 1 cs) (hg:Grw a s y i 1) (T:Tb s rid n 50 (rowsF R)) (hra:rid<a) (hrm:rid≠mid) (hwd:Wide R) (hn:R.length=n) (hi:i<n) (hn':n<256)
  (et:ρ qt=.sc (.ptr tb 0)) (er:ρ qr=.sc (.slice rid 0 n c 50)) (ej:ρ qj=iv j) (ei:ρ qi=iv i)
  (hP:∀ y' s',Fr u s'→Old a mid s s'→Bx s' mid (ys.set j y')→Sat s' y' (i+1) 1 (cs ++ [us (get2 R i j)])→Grw a s' y' (i+1) 1→P [] s') :
  Rg C (fun c K=>(fun z m=>fad n1 (ρ qt) fun v0=>dL z m n2 n1 s v0 fun v1 m s=>fad n1 (ρ qt) fun v2=>dL z m n16 n8 s v2 fun v3 m s=>ixs n1 v3 (ρ qj) fun v4=>dL z m n128 n120 s v4 fun v5 m s=>ixs n50 (ρ qr) (ρ qi) fun v6=>ixA n50 n1 v6 (ρ qj) fun v7=>dL z m (nat_lit 8192) (nat_lit 7936) s v7 fun v8 m s=>dw1 m (nat_lit 16384) (fun q=>h_op3_buildS n1 n1 [zu] [(n0,n1,(.c v8))] c ρ s q) fun v9 m s=>dw5 z m (nat_lit 32768) (nat_lit 32760) s (.more (.more (.append n1 n8 (.c v5) (.c v9)))) ρ (fun s q=>xA n1 n8 v5 v9 c ρ s q) fun v10 m s=>ixs n1 v1 (ρ qj) fun v11=>dS z m (nat_lit 131072) (nat_lit 131071) s n1 v11 v10 fun _ m s=>K [] s) s.next mk0) P:=by
 have hw:=hf.wf
 have r7:=T.rows hwd hn hi hj
 have rj:=bM.rd j _ hy
 have rt:=bT.rd 1 _ rfl
 have f1:Fr s (new s [us (get2 R i j)]):=(Fr.refl hw).new _
 have hS:Sat (new s [us (get2 R i j)]) (.slice s.next 0 1 (some 1) 1) 1 1 [us (get2 R i j)]:=Sat.new rfl fun m h=>by cases h;decide
 have hfill:∀ tm K,fillK tm K [(0,1,.c (uv (get2 R i j)))] [us 0]=K [us (get2 R i j)]:=fun tm K=>by
  rw [fill_sc tm K _ 0 (us (get2 R i j)) _ (by decide),fill_nil];rfl
 have hnx:(new s [us (get2 R i j)]).next=s.next+1:=rfl
 obtain ⟨y',s2,ss',hA,h2,h3,h4,h5⟩:=app_dwT (b:=8) (n0:=s.next) (bit:=32768) (pre:=32760) (al:=16384) (lm:=8338) (sm:=0) (hv:=0) (ll:=[⟨8192,rid,re1 (.sc (.ptr rid (i * 50+j))) (.sc (us (get2 R i j)))⟩,⟨128,mid,re1 (.sc (.ptr mid j)) (.sc y)⟩,⟨16,tb,re1 (.sc (.ptr tb 1)) (.sc (.slice mid 0 50 (some 50) 1))⟩,⟨2,tb,re1 (.sc (.ptr tb 1)) (.sc (.slice mid 0 50 (some 50) 1))⟩]) (ss:=[])
  f1.wf (hs.fr f1) (hg.fr f1) (by rw [hnx];omega) hS (by omega) (by omega) (okT_of fun id hid=>okS_of (by decide) (.inl (by decide)) (.inl (by decide)) (.inr (clearL_all fun p hp=>by
   have hge:a≤id:=by
    rcases List.mem_append.1 hid with h | h
    ·exact hg.sid id ((slIds_sid y id).1 h)
    ·have:=(slIds_sid _ id).1 h
     simp [sid] at this;omega
   simp only [List.mem_cons,List.not_mem_nil,or_false] at hp
   rcases hp with rfl | rfl | rfl | rfl
   ·exact .inr (show sub' 8192 32760=true by decide)
   ·exact .inr (show sub' 128 32760=true by decide)
   ·exact .inr (show sub' 16 32760=true by decide)
   ·exact .inl (by show tb≠id;omega))))
 have k2:Old a mid s s2:=(Old.fr f1).trans (Old.kp h4 fun id he=>.inl (hg.sid id he))
 have bM2:Bx s2 mid ys:=by
  have:=(bM.fr f1).kp h4 (fun he=>by have:=hg.sid mid he;omega)
  exact this
 have hjl:j<ys.length:=by omega
 have f2:Fr u s2:=h4.fr (hf.trans f1) (fun id he=>by have:=hg.sid id he;omega) hu
 have k3:=bM2.kpw f2.wf (i:=j) [y']
 have hmy:∀ id,some mid=some id→sid y'≠some id:=fun id he h=>by
  cases he
  have:=h3.sid mid h
  omega
 simp -implicitDefEqProofs (disch:=first|decide|omega | (apply okS_t;decide;(simp (decide:=true) <;> omega))) [et,er,ej,ei,rt,rj,T.ix hi,r7,buildS_eq,hfill,hA,dS_ok (off:=j) bM2.own (by omega)]
 refine Rg.ret (hP y' _ (k3.fr f2 (fun id h=>by cases h;exact hum) hu) (k2.trans (Old.kp k3 fun id h=>by cases h;exact .inr rfl)) (bM2.set hjl y') (h2.keep k3 hmy) (h3.keep k3 hmy))
theorem looked_ok (hw:WfS st):Ca (cF F) 17 [] st (fun v s=>Fr st s∧v=.agg (lookV.map isN)):=by
 refine Ca.of (hf:=cf17) rfl rfl [] [.cellN n8 q0] rfl rfl rfl fun Q hQ=>?_
 refine Ru.rs fun P' hP=>?_
 simp -implicitDefEqProofs (disch:=first|decide|omega)
 refine Rg.ret (hP _ _ ?_)
 clear hP P'
 have f1:Fr st (new st [is 0,is 0,is 0,is 0,is 0,is 0,is 0,is 0]):=(Fr.refl hw).new _
 have b1:Bx (new st [is 0,is 0,is 0,is 0,is 0,is 0,is 0,is 0]) st.next [is 0,is 0,is 0,is 0,is 0,is 0,is 0,is 0]:=Bx.new
 generalize new st [is 0,is 0,is 0,is 0,is 0,is 0,is 0,is 0]=s1 at *
 have hfill:∀ tm (K:List S→R),fillK tm K [(0,1,.c (iv 0)),(1,1,.c (iv 26)),(2,1,.c (iv 27)),(3,1,.c (iv 28)),(4,1,.c (iv 29)),(5,1,.c (iv 32)),(6,1,.c (iv 33)),(7,1,.c (iv 40))] [is 0,is 0,is 0,is 0,is 0,is 0,is 0,is 0]=K (lookV.map isN):=fun tm K=>by
  rw [fill_sc tm K _ _ _ _ (by simp),fill_sc tm K _ _ _ _ (by simp [setRange]),fill_sc tm K _ _ _ _ (by simp [setRange]),fill_sc tm K _ _ _ _ (by simp [setRange]),fill_sc tm K _ _ _ _ (by simp [setRange]),fill_sc tm K _ _ _ _ (by simp [setRange]),fill_sc tm K _ _ _ _ (by simp [setRange]),fill_sc tm K _ _ _ _ (by simp [setRange]),fill_nil];rfl
 have hst:=b1.stoN (l':=lookV.map isN) (n:=8) rfl rfl
 refine Ru.rs fun P' hP=>?_
 simp -implicitDefEqProofs (disch:=first|decide|omega) [build_eq,hfill,hst]
 refine Rg.ret (hP _ _ ?_)
 clear hP P'
 have kw:=b1.kpw f1.wf (i:=0) (lookV.map isN)
 exact Ru.ret (hQ _ _ (resP.cells (n:=7) (id:=st.next) (off:=0) (l:=lookV.map isN) rfl ((b1.setN (l':=lookV.map isN) rfl).N rfl) ⟨kw.fr f1 (fun id h=>by cases h;exact Nat.le_refl _) hw,rfl⟩))
end
section
variable {st s t u:St}{n i id off a mid:Nat}
def colV (R:List Row) (n j:Nat):List S:=(List.range n).map fun i=>us (get2 R i j)
def fullV (P:List InsD) (g:MSt) (n:Nat):List Row:=cntI (fullR P g n) n
def lastM (P:List InsD) (g:MSt) (n:Nat):MSt:=runM P g (n - 1)
def TrcV (st:St) (R:List Row) (pub:List Nat) (n:Nat) (v:V) (s:St):Prop:=Fr st s∧∃ yp ym ys,v=.tup [(true,[yp,ym]),(false,[is 0])]∧Sat s yp 8 1 (pub.map us)∧Sat s ym 50 1 ys∧ys.length=50∧∀ j,j<50→∃ y,ys[j]?=some y∧Sat s y n 1 (colV R n j)
def errP (st:St) (e:Nat) (v:V) (s:St):Prop:=Fr st s∧v=.tup [(true,[.nils,.nils]),(false,[is e])]
def ColP (st:St) (P:List InsD) (l:List Nat) (r:Int) (v:V) (s:St):Prop :=
 if boundsV P r≠0 then errP st (boundsV P r) v s
 else if (fetchV P (lastM P (startM l) (2 ^ r.toNat)).pc).o≠0 then errP st 8 v s
 else TrcV st (fullV P (startM l) (2 ^ r.toNat)) (l ++ (lastM P (startM l) (2 ^ r.toNat)).r) (2 ^ r.toNat) v s
theorem bounds0 {P:List InsD}{r:Int} (h:boundsV P r=0):validV P=0∧4≤r∧r≤13∧P.length<2 ^ r.toNat:=by
 unfold boundsV at h
 by_cases h1:validV P≠0∨r<4∨13<r
 ·rw [if_pos h1] at h;cases h
 rw [if_neg h1] at h
 by_cases h2:2 ^ r.toNat≤P.length
 ·rw [if_pos h2] at h;cases h
 exact ⟨by omega,by omega,by omega,by omega⟩
structure FlI (n rid tb mid:Nat) (c:Option Nat) (R:List Row) (j:Nat) (s:St) (ys:List S):Prop where
 len:ys.length=50
 lm:rid<mid
 lt:mid<tb
 bT:Bx s tb [.nils,.slice mid 0 50 (some 50) 1]
 bM:Bx s mid ys
 T:Tb s rid n 50 (rowsF R)
 done:∀ k,k<j→∃ y,ys[k]?=some y∧Sat s y n 1 (colV R n k)∧∀ id,sid y=some id→tb<id∧id<s.next
 todo:∀ k,j≤k→k<50→ys[k]?=some .nils
theorem colV_s (R:List Row) (i j:Nat):colV R (i+1) j=colV R i j ++ [us (get2 R i j)]:=by
 unfold colV;rw [List.range_succ,List.map_append];rfl
theorem FlI.step {rid tb:Nat}{c:Option Nat}{R:List Row}{j:Nat}{ys:List S}{y':S} (h:FlI n rid tb mid c R j s ys) (hj:j<50) (hw:WfS t) (k:Old s.next mid s t) (bM:Bx t mid (ys.set j y')) (hs:Sat t y' n 1 (colV R n j)) (hg:Grw s.next t y' n 1) :
  FlI n rid tb mid c R (j+1) t (ys.set j y'):=by
 have l1:=h.lm;have l2:=h.lt;have l3:=h.bT.lt
 refine ⟨by rw [List.length_set,h.len],h.lm,h.lt,h.bT.old k l3 (by omega),bM,h.T.old k (by omega) (by omega),fun i hi=>?_,fun i h1 h2=>?_⟩
 ·by_cases he:i=j
  ·subst he
   exact ⟨y',by rw [List.getElem?_set,if_pos rfl,if_pos (by rw [h.len];exact hj)],hs,fun id hid=>⟨by have:=hg.sid id hid;omega,hg.lt hw id hid⟩⟩
  ·obtain ⟨y,e1,e2,e3⟩:=h.done i (by omega)
   refine ⟨y,by rw [List.getElem?_set,if_neg (fun e=>he e.symm)];exact e1,e2.old k fun id hid=>⟨(e3 id hid).2,by have:=(e3 id hid).1;omega⟩,fun id hid=>⟨(e3 id hid).1,Nat.lt_of_lt_of_le (e3 id hid).2 k.next⟩⟩
 ·rw [List.getElem?_set,if_neg (by omega)]
  exact h.todo i (by omega) h2
structure FlR (n rid tb mid:Nat) (c:Option Nat) (R:List Row) (j i:Nat) (s0 s:St) (ys:List S) (y:S):Prop where
 old:Old s0.next mid s0 s
 bM:Bx s mid (ys.set j y)
 sat:Sat s y i 1 (colV R i j)
 grw:Grw s0.next s y i 1
theorem FlI.start {rid tb:Nat}{c:Option Nat}{R:List Row}{j:Nat}{ys:List S} (h:FlI n rid tb mid c R j s ys) (hj:j<50):FlR n rid tb mid c R j 0 s s ys .nils:=by
 refine ⟨⟨Nat.le_refl _,fun _ _ _ _ h=>h⟩, ?_,Sat.nil 1,Grw.nil _ _⟩
 have:ys.set j .nils=ys:=by
  refine List.ext_getElem? fun i=>?_
  rw [List.getElem?_set]
  by_cases he:j=i
  ·subst he
   rw [if_pos rfl,if_pos (by rw [h.len];exact hj),h.todo j (Nat.le_refl _) hj]
  ·rw [if_neg he]
 rw [this];exact h.bM
theorem FlI.reg {C:Nat→CallK}{rid tb:Nat}{c:Option Nat}{R:List Row}{j:Nat}{ys:List S}{s0:St}{y:S}{ρ:Ev}{qt qr qj qi:Pth}{P:List V→St→Prop}
  (H:FlI n rid tb mid c R j s0 ys) (h:FlR n rid tb mid c R j i s0 s ys y) (hf:Fr u s) (hu:WfS u) (hum:u.next≤mid) (hj:j<50) (hwd:Wide R) (hn:R.length=n) (hi:i<n) (hn':n<256)
  (et:ρ qt=.sc (.ptr tb 0)) (er:ρ qr=.sc (.slice rid 0 n c 50)) (ej:ρ qj=iv j) (ei:ρ qi=iv i)
  (hP:∀ y' s',Fr u s'→Old s0.next mid s s'→FlR n rid tb mid c R j (i+1) s0 s' ys y'→P [] s') :
  Rg C (fun c K=>(fun z m=>fad n1 (ρ qt) fun v0=>dL z m n2 n1 s v0 fun v1 m s=>fad n1 (ρ qt) fun v2=>dL z m n16 n8 s v2 fun v3 m s=>ixs n1 v3 (ρ qj) fun v4=>dL z m n128 n120 s v4 fun v5 m s=>ixs n50 (ρ qr) (ρ qi) fun v6=>ixA n50 n1 v6 (ρ qj) fun v7=>dL z m (nat_lit 8192) (nat_lit 7936) s v7 fun v8 m s=>dw1 m (nat_lit 16384) (fun q=>h_op3_buildS n1 n1 [zu] [(n0,n1,(.c v8))] c ρ s q) fun v9 m s=>dw5 z m (nat_lit 32768) (nat_lit 32760) s (.more (.more (.append n1 n8 (.c v5) (.c v9)))) ρ (fun s q=>xA n1 n8 v5 v9 c ρ s q) fun v10 m s=>ixs n1 v1 (ρ qj) fun v11=>dS z m (nat_lit 131072) (nat_lit 131071) s n1 v11 v10 fun _ m s=>K [] s) s.next mk0) P:=by
 have l1:=H.lm;have l2:=H.lt;have l3:=H.bT.lt;have l4:=h.old.next
 have hys:(ys.set j y).length=50:=by rw [List.length_set,H.len]
 refine fill_reg (u:=u) (a:=s0.next) (mid:=mid) (y:=y) hf hu hum (by omega) l4 (H.bT.old h.old l3 (by omega)) l3 (by omega) (by omega) h.bM hys hj (by rw [List.getElem?_set,if_pos rfl,if_pos (by rw [H.len];exact hj)]) h.sat h.grw (H.T.old h.old (by omega) (by omega)) (by omega) (by omega) hwd hn hi hn' et er ej ei fun y' s' k1 k2 k3 k4 k5=>?_
 refine hP y' s' k1 k2 ⟨h.old.trans k2, ?_,by rw [colV_s];exact k4,k5⟩
 rw [List.set_set] at k3;exact k3
structure CoI (st:St) (y:S) (gl:MSt) (n sid i11 rid:Nat) (c:Option Nat) (F9 F12:Nat→List S) (ρ:Ev) (s:St):Prop where
 fr:Fr st s
 e0:ρ q0=.sc y
 e6:ρ q6=.sc (.ptr (st.next+1) 0)
 e9:ρ q9=.sc (.slice sid 0 n c 21)
 e11:ρ q11=.sc (.ptr i11 0)
 e12:ρ q12=.sc (.slice rid 0 n (some n) 50)
 l9:st.next+1<sid
 l11:sid<i11
 l12:i11<rid
 b6:Bx s (st.next+1) [.nils,.nils]
 b11:Bx s i11 (mstC gl)
 T9:Tb s sid n 21 F9
 T12:Tb s rid n 50 F12
section
variable {y:S}{gl:MSt}{sid i11 rid:Nat}{c:Option Nat}{F9 F12 F12':Nat→List S}{ρ ρ':Ev}
theorem CoI.env (h:CoI st y gl n sid i11 rid c F9 F12 ρ s) (h0:ρ' q0=ρ q0) (h6:ρ' q6=ρ q6) (h9:ρ' q9=ρ q9) (h11:ρ' q11=ρ q11) (h12:ρ' q12=ρ q12):CoI st y gl n sid i11 rid c F9 F12 ρ' s :=
 ⟨h.fr,h0.trans h.e0,h6.trans h.e6,h9.trans h.e9,h11.trans h.e11,h12.trans h.e12,h.l9,h.l11,h.l12,h.b6,h.b11,h.T9,h.T12⟩
theorem CoI.mv (h:CoI st y gl n sid i11 rid c F9 F12 ρ s) (k:Fr s t):CoI st y gl n sid i11 rid c F9 F12 ρ t :=
 ⟨h.fr.trans k,h.e0,h.e6,h.e9,h.e11,h.e12,h.l9,h.l11,h.l12,h.b6.fr k,h.b11.fr k,h.T9.fr k,h.T12.fr k⟩
theorem CoI.kp (hw:WfS st) (h:CoI st y gl n sid i11 rid c F9 F12 ρ s) (k:Kp (some rid) s t) (T:Tb t rid n 50 F12'):CoI st y gl n sid i11 rid c F9 F12' ρ t:=by
 have:=h.l9;have:=h.l11;have:=h.l12
 exact ⟨k.fr h.fr (fun id h=>by cases h;omega) hw,h.e0,h.e6,h.e9,h.e11,h.e12,h.l9,h.l11,h.l12,h.b6.kp k (ne_some (by omega)),h.b11.kp k (ne_some (by omega)),h.T9.kp k (ne_some (by omega)),T⟩
theorem CoI.old {a mid:Nat} (h:CoI st y gl n sid i11 rid c F9 F12 ρ s) (hf:Fr st t) (k:Old a mid s t) (ha:rid<a) (hm:rid<mid):CoI st y gl n sid i11 rid c F9 F12 ρ t:=by
 have:=h.l9;have:=h.l11;have:=h.l12
 exact ⟨hf,h.e0,h.e6,h.e9,h.e11,h.e12,h.l9,h.l11,h.l12,h.b6.old k (by omega) (by omega),h.b11.old k (by omega) (by omega),h.T9.old k (by omega) (by omega),h.T12.old k (by omega) (by omega)⟩
theorem CoI.congr (h:CoI st y gl n sid i11 rid c F9 F12 ρ s) (e:∀ i,i<n→F12 i=F12' i):CoI st y gl n sid i11 rid c F9 F12' ρ s :=
 ⟨h.fr,h.e0,h.e6,h.e9,h.e11,h.e12,h.l9,h.l11,h.l12,h.b6,h.b11,h.T9,h.T12.congr e⟩
end
end
section
variable {st s t u:St}{n i id off a mid:Nat}
theorem idxV_agg {st:St}{len z j:Nat}{l x:List S} (c:CallK) (r:Ev) (K:V→St→R) (h:j<len) (hl:j * z+z≤l.length) (hx:(l.drop (j * z)).take z=x):h_op2_idxV len z true (.c (.agg l)) (.c (iv j)) c r st K=K (.agg x) st:=by
 show iteB (Nat.blt j len) (takeK z (List.drop (j * z) l) fun l=>iteB (Nat.beq (lenL l) z) (K (.agg l) st) (R.fail 72)) (R.fail 79)=_
 rw [show Nat.blt j len=true from Nat.ble_eq_true_of_le h,iteB_true,takeK_eq,hx,lenL_eq]
 have:x.length=z:=by rw [← hx];simp;omega
 rw [this,Nat.beq_refl];rfl
structure PuI (st:St) (n tb mid p0:Nat) (R0:List Row) (pub:List Nat) (ys:List S) (m:Nat) (s:St) (yp:S):Prop where
 fr:Fr st s
 l1:st.next+1<mid
 lt:mid<tb
 l0:tb<p0
 ls:p0≤s.next
 len:ys.length=50
 b6:Bx s (st.next+1) [.nils,.nils]
 bT:Bx s tb [yp,.slice mid 0 50 (some 50) 1]
 bM:Bx s mid ys
 done:∀ k,k<50→∃ y,ys[k]?=some y∧Sat s y n 1 (colV R0 n k)∧∀ id,sid y=some id→tb<id∧id<p0
 sp:Sat s yp m 1 ((pub.take m).map us)
 gp:Grw p0 s yp m 1
theorem PuI.start {rid tb:Nat}{c:Option Nat}{R0:List Row}{ys:List S} (pub:List Nat) (h:FlI n rid tb mid c R0 50 s ys) (hf:Fr st s) (h1:st.next+1<mid) (b6:Bx s (st.next+1) [.nils,.nils]):PuI st n tb mid s.next R0 pub ys 0 s .nils :=
 ⟨hf,h1,h.lt,h.bT.lt,Nat.le_refl _,h.len,b6,h.bT,h.bM,fun k hk=>h.done k hk,Sat.nil 1,Grw.nil _ _⟩
theorem PuI.mv {tb p0 m:Nat}{R0:List Row}{pub:List Nat}{ys:List S}{yp:S} (h:PuI st n tb mid p0 R0 pub ys m s yp) (k:Fr s t):PuI st n tb mid p0 R0 pub ys m t yp :=
 ⟨h.fr.trans k,h.l1,h.lt,h.l0,Nat.le_trans h.ls k.next,h.len,h.b6.fr k,h.bT.fr k,h.bM.fr k,fun i hi=>by
  obtain ⟨y,e1,e2,e3⟩:=h.done i hi
  exact ⟨y,e1,e2.fr k,e3⟩,h.sp.fr k,h.gp.fr k⟩
theorem PuI.push {tb p0 m:Nat}{R0:List Row}{pub:List Nat}{ys:List S}{yp y':S} (hw:WfS st) (h:PuI st n tb mid p0 R0 pub ys m s yp) {x:Nat} (hx:pub[m]?=some x) {s2:St} (f2:Fr st s2)
  (hs2:Sat s2 y' (m+1) 1 ((pub.take m).map us ++ [us x])) (hg2:Grw p0 s2 y' (m+1) 1) (k2:Kp (sid yp) s s2):PuI st n tb mid p0 R0 pub ys (m+1) (wr s2 tb 0 [y']) y':=by
 have l1:=h.l1;have l2:=h.lt;have l3:=h.l0
 have ne:∀ id,id<p0→sid yp≠some id:=fun id hid he=>by have:=h.gp.sid id he;omega
 have bT2:=h.bT.kp k2 (ne _ (by omega))
 have k3:=bT2.kpw f2.wf (i:=0) [y']
 refine ⟨k3.fr f2 (fun id h=>by cases h;omega) hw,h.l1,h.lt,h.l0,Nat.le_trans (Nat.le_trans h.ls k2.next) k3.next,h.len,(h.b6.kp k2 (ne _ (by omega))).kp k3 (ne_some (by omega)),bT2.set (i:=0) (show 0<2 by decide) y',(h.bM.kp k2 (ne _ (by omega))).kp k3 (ne_some (by omega)),fun k hk=>?_, ?_, ?_⟩
 ·obtain ⟨y,e1,e2,e3⟩:=h.done k hk
  refine ⟨y,e1,(e2.keep k2 fun id he hid=>?_).keep k3 fun id he hid=>?_,e3⟩
  ·exact ne id (e3 id hid).2 he
  ·cases he;have:=(e3 _ hid).1;omega
 ·have e:(pub.take (m+1)).map us=(pub.take m).map us ++ [us x]:=by
   rw [List.take_add_one,hx];simp
  rw [e]
  exact hs2.keep k3 fun id he hid=>by cases he;have:=hg2.sid _ hid;omega
 ·exact hg2.keep k3 fun id he hid=>by cases he;have:=hg2.sid _ hid;omega
theorem PuI.fin {tb p0:Nat}{R0:List Row}{pub:List Nat}{ys:List S}{yp:S}{ρ:Ev}{qt:Pth}{Q:X→Ev→St→Prop} (hw:WfS st) (h:PuI st n tb mid p0 R0 pub ys 8 s yp) (hp:pub.length=8) (e6:ρ q6=.sc (.ptr (st.next+1) 0)) (et:ρ qt=.sc (.ptr tb 0))
  (hQ:∀ ρ s,resP [.cellN n2 q6,.tmp q7] ρ s (fun v s=>TrcV st R0 pub n v s)→Q .ret ρ s) :
  Ru (cF F) (.seq (.reg [q7] fun c r s K=>lN s n2 (r qt) fun v0=>sto s n2 (r q6) v0 fun s=>K [I0] s) .ret) ρ s Q:=by
 have l1:=h.l1;have l2:=h.lt;have l3:=h.l0
 refine Ru.rs fun P' hP=>?_
 simp -implicitDefEqProofs (disch:=first|decide|omega) [et,e6,h.bT.N (n:=2) rfl,h.b6.stoN (l':=[yp,.slice mid 0 50 (some 50) 1]) (n:=2) rfl rfl]
 refine Rg.ret (hP _ _ ?_)
 clear hP P'
 have k:=h.b6.kpw h.fr.wf (i:=0) [yp,.slice mid 0 50 (some 50) 1]
 refine Ru.ret (hQ _ _ (resP.cellsTmp (n:=1) (id:=st.next+1) (off:=0) (l:=[yp,.slice mid 0 50 (some 50) 1]) e6 ((h.b6.setN (l':=[yp,.slice mid 0 50 (some 50) 1]) rfl).N rfl) rfl ⟨k.fr h.fr (fun id h=>by cases h;omega) hw,_,_,ys,rfl, ?_, ?_,h.len,fun j hj=>?_⟩))
 ·have:=h.sp
  rw [List.take_of_length_le (by omega)] at this
  exact this.keep k fun id he hid=>by cases he;have:=h.gp.sid _ hid;omega
 ·have bM:=h.bM.kp k (ne_some (by omega))
  exact sat_of_rd' (by decide) (by rw [h.len]) (fun m hm=>by cases hm;exact Nat.le_refl _) fun i x hx=>by rw [Nat.zero_add];exact bM.rd i x hx
 ·obtain ⟨y,e1,e2,e3⟩:=h.done j hj
  exact ⟨y,e1,e2.keep k fun id he hid=>by cases he;have:=(e3 _ hid).1;omega⟩
end
end Go.Proofs.YtkneccbdfpnnlaaGreatDoor.Ev
