/- What the listed package variables hold, and the evaluator's runs, by the kernel; no conditions. -/
import Derived.Test.YtkneccbdfpnnlaaGreatDoorEvF
namespace Go.Proofs.YtkneccbdfpnnlaaGreatDoor.Ev
set_option linter.unusedSimpArgs false
set_option linter.unusedVariables false
section
section
variable {E:Type} [Inhabited E] {es es' es'':List E}{a b i j k n:Nat}
def el (es:List E) (i:Nat):E:=es.getD i default
def sw (es:List E) (i j:Nat):List E:=(es.set i (el es j)).set j (el es i)
theorem el_get (h:i<es.length):es[i]?=some (el es i):=by
 unfold el;rw [List.getD_eq_getElem?_getD,List.getElem?_eq_getElem h];rfl
theorem el_mem (h:i<es.length):el es i∈es:=List.mem_of_getElem? (el_get h)
@[simp] theorem sw_len:(sw es i j).length=es.length:=by simp [sw]
theorem el_set (x:E) (h:i<es.length) (k:Nat):el (es.set i x) k=if k=i then x else el es k:=by
 unfold el
 rw [List.getD_eq_getElem?_getD,List.getD_eq_getElem?_getD,List.getElem?_set]
 by_cases hk:k=i
 ·subst hk;rw [if_pos rfl,if_pos h,if_pos rfl];rfl
 ·rw [if_neg (fun h=>hk h.symm),if_neg hk]
theorem el_sw (hi:i<es.length) (hj:j<es.length) (k:Nat):el (sw es i j) k=if k=j then el es i else if k=i then el es j else el es k:=by
 unfold sw
 rw [el_set _ (by simpa using hj),el_set _ hi]
theorem sw_perm (hi:i<es.length) (hj:j<es.length):(sw es i j).Perm es:=by
 have h1:el es j=es[j]:=by unfold el;rw [List.getD_eq_getElem?_getD,List.getElem?_eq_getElem hj];rfl
 have h2:el es i=es[i]:=by unfold el;rw [List.getD_eq_getElem?_getD,List.getElem?_eq_getElem hi];rfl
 unfold sw
 rw [h1,h2]
 exact List.set_set_perm hi hj
structure Mv (es es':List E) (a b:Nat):Prop where
 len:es'.length=es.length
 perm:es'.Perm es
 off:∀ i,i<a∨b≤i→el es' i=el es i
theorem Mv.refl (es:List E) (a b:Nat):Mv es es a b:=⟨rfl,.refl _,fun _ _=>rfl⟩
theorem Mv.trans (h:Mv es es' a b) (k:Mv es' es'' a b):Mv es es'' a b:=⟨k.len.trans h.len,k.perm.trans h.perm,fun i hi=>(k.off i hi).trans (h.off i hi)⟩
theorem Mv.sub {c d:Nat} (h:Mv es es' c d) (h1:a≤c) (h2:d≤b):Mv es es' a b:=⟨h.len,h.perm,fun i hi=>h.off i (by omega)⟩
theorem Mv.sw (hi:i<es.length) (hj:j<es.length) (h1:a≤i) (h2:i<b) (h3:a≤j) (h4:j<b):Mv es (sw es i j) a b :=
 ⟨sw_len,sw_perm hi hj,fun k hk=>by rw [el_sw hi hj,if_neg (by omega),if_neg (by omega)]⟩
theorem ext_el {l m:List E} (hl:l.length=m.length) (h:∀ i,i<l.length→el l i=el m i):l=m:=by
 apply List.ext_getElem? fun i=>?_
 by_cases hi:i<l.length
 ·rw [el_get hi,el_get (by omega),h i hi]
 ·rw [List.getElem?_eq_none (by omega),List.getElem?_eq_none (by omega)]
theorem el_take (h:i<k):el (es.take k) i=el es i:=by
 unfold el;rw [List.getD_eq_getElem?_getD,List.getD_eq_getElem?_getD,List.getElem?_take,if_pos h]
theorem el_drop:el (es.drop k) i=el es (k+i):=by
 unfold el;rw [List.getD_eq_getElem?_getD,List.getD_eq_getElem?_getD,List.getElem?_drop]
theorem Mv.mid (h:Mv es es' a b) (hb:b≤es.length) (hab:a≤b):((es'.drop a).take (b - a)).Perm ((es.drop a).take (b - a)):=by
 have cut:∀ l:List E,l=l.take a ++ ((l.drop a).take (b - a) ++ l.drop b):=fun l=>by
  have e:l.drop b=(l.drop a).drop (b - a):=by rw [List.drop_drop];congr 1;omega
  rw [e,List.take_append_drop,List.take_append_drop]
 have h1:es'.take a=es.take a:=ext_el (by simp [h.len]) fun i hi=>by
  simp at hi
  rw [el_take (by omega),el_take (by omega),h.off i (.inl (by omega))]
 have h2:es'.drop b=es.drop b:=ext_el (by simp [h.len]) fun i hi=>by
  rw [el_drop,el_drop,h.off _ (.inr (by omega))]
 have hp:=h.perm
 rw [cut es,cut es',h1,h2] at hp
 exact (List.perm_append_right_iff _).1 ((List.perm_append_left_iff _).1 hp)
theorem Mv.rng (h:Mv es es' a b) (hb:b≤es.length) (P:E→Prop) (hP:∀ i,a≤i→i<b→P (el es i)):∀ i,a≤i→i<b→P (el es' i):=by
 intro i h1 h2
 have hm:=h.mid hb (by omega)
 have hmem:el es' i∈(es'.drop a).take (b - a):=by
  have:el es' i=el ((es'.drop a).take (b - a)) (i - a):=by rw [el_take (by omega),el_drop];congr 1;omega
  rw [this]
  refine el_mem ?_
  simp [h.len];omega
 have hmem':=hm.mem_iff.1 hmem
 obtain ⟨j,hj⟩:=List.getElem?_of_mem hmem'
 have hjl:j<((es.drop a).take (b - a)).length:=(List.getElem?_eq_some_iff.1 hj).1
 rw [el_get hjl] at hj
 simp at hjl
 have hj:=Option.some.inj hj
 rw [el_take (by omega),el_drop] at hj
 rw [← hj]
 exact hP _ (by omega) (by omega)
structure Ltr (lt:E→E→Bool):Prop where
 asym:∀ x y,lt x y=true→lt y x=false
 trans:∀ x y z,lt x y=true→lt y z=true→lt x z=true
def Dis (lt:E→E→Bool) (es:List E):Prop:=es.Pairwise fun x y=>lt x y=true∨lt y x=true
theorem Dis.perm {E':Type}{es es':List E'}{lt:E'→E'→Bool} (h:Dis lt es) (p:es'.Perm es):Dis lt es':=(p.symm.pairwise_iff (fun h=>h.symm)).1 h
variable {lt:E→E→Bool}
theorem Dis.ne (h:Dis lt es) (hi:i<es.length) (hj:j<es.length) (hne:i≠j):lt (el es i) (el es j)=true∨lt (el es j) (el es i)=true:=by
 have key:∀ i j,i<j→j<es.length→lt (el es i) (el es j)=true∨lt (el es j) (el es i)=true:=fun i j h1 h2=>by
  have:=List.pairwise_iff_getElem.1 h i j (by omega) h2 h1
  have e1:el es i=es[i]'(by omega):=by unfold el;rw [List.getD_eq_getElem?_getD,List.getElem?_eq_getElem (by omega)];rfl
  have e2:el es j=es[j]:=by unfold el;rw [List.getD_eq_getElem?_getD,List.getElem?_eq_getElem h2];rfl
  rw [e1,e2];exact this
 rcases Nat.lt_or_gt_of_ne hne with h1 | h1
 ·exact key i j h1 hj
 ·exact (key j i h1 hi).symm
theorem Dis.not (h:Dis lt es) (hi:i<es.length) (hj:j<es.length) (hne:i≠j) (hn:lt (el es i) (el es j)=false):lt (el es j) (el es i)=true:=by
 rcases h.ne hi hj hne with h | h
 ·rw [hn] at h;cases h
 ·exact h
def Srt (lt:E→E→Bool) (es:List E) (a b:Nat):Prop:=∀ i j,a≤i→i<j→j<b→lt (el es i) (el es j)=true
theorem Srt.congr (h:Srt lt es a b) (he:∀ i,a≤i→i<b→el es' i=el es i):Srt lt es' a b:=fun i j h1 h2 h3=>by
 rw [he i h1 (by omega),he j (by omega) h3];exact h i j h1 h2 h3
structure Ins (lt:E→E→Bool) (es:List E) (a i j:Nat):Prop where
 pair:∀ p q,a≤p→p<q→q≤i→p≠j→q≠j→lt (el es p) (el es q)=true
 up:∀ q,j<q→q≤i→lt (el es j) (el es q)=true
theorem Ins.start (h:Srt lt es a i):Ins lt es a i i:=⟨fun p q h1 h2 h3 h4 h5=>h p q h1 h2 (by omega),fun q h1 h2=>by omega⟩
theorem Ins.step (h:Ins lt es a i (j+1)) (ha:a≤j) (hj:j+1≤i) (hi:i<es.length) (hlt:lt (el es (j+1)) (el es j)=true):Ins lt (sw es (j+1) j) a i j:=by
 have e:=fun k=>el_sw (es:=es) (i:=j+1) (j:=j) (by omega) (by omega) k
 refine ⟨fun p q h1 h2 h3 h4 h5=>?_,fun q h1 h2=>?_⟩
 ·rw [e,e,if_neg h4,if_neg h5]
  by_cases hp:p=j+1
  ·rw [if_pos hp,if_neg (by omega)]
   exact h.pair j q ha (by omega) h3 (by omega) (by omega)
  ·rw [if_neg hp]
   by_cases hq:q=j+1
   ·rw [if_pos hq];exact h.pair p j h1 (by omega) (by omega) hp (by omega)
   ·rw [if_neg hq];exact h.pair p q h1 h2 h3 hp hq
 ·rw [e,e,if_pos rfl,if_neg (by omega)]
  by_cases hq:q=j+1
  ·rw [if_pos hq];exact hlt
  ·rw [if_neg hq];exact h.up q (by omega) h2
theorem Ins.done (ho:Ltr lt) (h:Ins lt es a i j) (hj:j≤i) (hx:j≤a∨(0<j∧a≤j - 1∧lt (el es (j - 1)) (el es j)=true)):Srt lt es a (i+1):=fun p q h1 h2 h3=>by
 by_cases hp:p=j
 ·subst hp;exact h.up q h2 (by omega)
 ·by_cases hq:q=j
  ·subst hq
   rcases hx with hx | ⟨x1,x2,x3⟩
   ·omega
   ·by_cases hpp:p=q - 1
    ·rw [hpp];exact x3
    ·exact ho.trans _ _ _ (h.pair p (q - 1) h1 (by omega) (by omega) hp (by omega)) x3
  ·exact h.pair p q h1 h2 (by omega) hp hq
def Hp1 (lt:E→E→Bool) (es:List E) (f hi i:Nat):Prop:=∀ c,(c=2 * i+1∨c=2 * i+2)→c<hi→lt (el es (f+i)) (el es (f+c))=false
def Heap (lt:E→E→Bool) (es:List E) (f lo hi:Nat):Prop:=∀ i,lo≤i→Hp1 lt es f hi i
structure Sift (lt:E→E→Bool) (es:List E) (f lo hi r:Nat):Prop where
 rest:∀ i,lo≤i→i≠r→Hp1 lt es f hi i
 grand:∀ p c,lo≤p→(r=2 * p+1∨r=2 * p+2)→(c=2 * r+1∨c=2 * r+2)→c<hi→lt (el es (f+p)) (el es (f+c))=false
theorem Sift.start {f lo hi:Nat} (h:Heap lt es f (lo+1) hi):Sift lt es f lo hi lo:=⟨fun i h1 h2=>h i (by omega),fun p c h1 h2=>by omega⟩
theorem Sift.done {f lo hi r:Nat} (h:Sift lt es f lo hi r) (hr:Hp1 lt es f hi r):Heap lt es f lo hi:=fun i hi=>by
 by_cases he:i=r
 ·subst he;exact hr
 ·exact h.rest i hi he
theorem Sift.step {f lo hi r c:Nat} (ho:Ltr lt) (h:Sift lt es f lo hi r) (hl:f+hi≤es.length) (hc:c=2 * r+1∨c=2 * r+2) (hch:c<hi)
  (hlt:lt (el es (f+r)) (el es (f+c))=true) (hsib:∀ d,(d=2 * r+1∨d=2 * r+2)→d<hi→lt (el es (f+c)) (el es (f+d))=false) (hlo:lo≤r):Sift lt (sw es (f+r) (f+c)) f lo hi c:=by
 have e:=fun k=>el_sw (es:=es) (i:=f+r) (j:=f+c) (by omega) (by omega) k
 refine ⟨fun i h1 h2 d h3 h4=>?_,fun p d h1 h2 h3 h4=>?_⟩
 ·rw [e,e,if_neg (by omega)]
  by_cases hir:i=r
  ·subst hir
   rw [if_pos rfl]
   by_cases hd:d=c
   ·rw [if_pos (by omega)]
    exact ho.asym _ _ hlt
   ·rw [if_neg (by omega),if_neg (by omega)]
    exact hsib d h3 h4
  ·rw [if_neg (by omega)]
   by_cases hd:d=c
   ·omega
   ·rw [if_neg (by omega)]
    by_cases hdr:d=r
    ·rw [if_pos (by omega)]
     exact h.grand i c h1 (by omega) hc hch
    ·rw [if_neg (by omega)]
     exact h.rest i h1 hir d h3 h4
 ·have hp:p=r:=by omega
  subst hp
  rw [e,e,if_neg (by omega),if_pos rfl,if_neg (by omega),if_neg (by omega)]
  exact h.rest c (by omega) (by omega) d h3 h4
theorem Heap.root {f hi:Nat} (ho:Ltr lt) (hd:Dis lt es) (h:Heap lt es f 0 hi) (hl:f+hi≤es.length):∀ k,k<hi→lt (el es f) (el es (f+k))=false:=by
 intro k
 induction k using Nat.strongRecOn with
 | ind k ih =>
  intro hk
  by_cases h0:k=0
  ·subst h0
   cases hx:lt (el es f) (el es (f+0)) with
   | false=>rfl
   | true=>have:=ho.asym _ _ hx;rw [Nat.add_zero] at this hx;rw [hx] at this;cases this
  ·have hp:=h ((k - 1) / 2) (Nat.zero_le _) k (by omega) hk
   have hq:=ih ((k - 1) / 2) (by omega) (by omega)
   cases hx:lt (el es f) (el es (f+k)) with
   | false=>rfl
   | true =>
    have h1:lt (el es (f+k)) (el es (f+(k - 1) / 2))=true:=hd.not (by omega) (by omega) (by omega) hp
    have h2:=ho.trans _ _ _ hx h1
    rw [h2] at hq;cases hq
end
end
section
structure PdN where
 ins:Nat
 sift:Nat
 heap:Nat
 part:Nat
 pIns:Nat
 rev:Nat
 brk:Nat
 nP:Nat
 nxt:Nat
 len:Nat
 len64:Nat
 ord2:Nat
 med:Nat
 medA:Nat
 piv:Nat
 pEq:Nat
 pdq:Nat
 sortF:Nat
 len32:Nat
noncomputable def hIns (z0:PdN):HF:=⟨
(.seq (.reg [q8] fun c r s K=>binK .add (r q1) I1 fun v0=>K [v0] s)
 (.block n0 (.loop (.seq (.seq (.reg [q14] fun c r s K=>binK .lss (r q8) (r q2) fun v0=>K [v0] s)
 (.cond (.t q14) .skip
 (.exit n0)))
 (.seq (.block n1 (.seq (.reg [q9] fun c r s K=>K [(r q8)] s)
 (.block n2 (.loop (.seq (.seq (.drw [q34] fun c r s K=>(fun z m=>binK .gtr (r q9) (r q1) fun v0=>jnD true v0 (fun jj=>jj (r q3) m s) m s fun v1 m s=>jnD true v0 (fun jj=>jj (r q0) m s) m s fun v2 m s=>jnD true v0 (fun jj=>jj (r q9) m s) m s fun v3 m s=>jnD true v0 (fun jj=>ixs n1 v2 v3 fun v=>jj v m s) m s fun v4 m s=>jnD true v0 (fun jj=>dL z m (nat_lit 256) (nat_lit 239) s v4 jj) m s fun v5 m s=>jnD true v0 (fun jj=>jj (r q0) m s) m s fun v6 m s=>jnD true v0 (fun jj=>jj (r q9) m s) m s fun v7 m s=>jnD true v0 (fun jj=>binK .sub v7 I1 fun v=>jj v m s) m s fun v8 m s=>jnD true v0 (fun jj=>ixs n1 v6 v8 fun v=>jj v m s) m s fun v9 m s=>jnD true v0 (fun jj=>dL z m (nat_lit 8192) (nat_lit 7695) s v9 jj) m s fun v10 m s=>jnD true v0 (fun jj=>dw3 m (nat_lit 16384) (nat_lit 16383) s (fun s q=>h_op4_callV (.c v1) [(.c v5),(.c v10)] c r s q) jj) m s fun v11 m s=>jnD true v0 (fun jj=>binK .lss v11 I0 fun v=>jj v m s) m s fun v12 m s=>pck v0 v12 ff fun v13=>K [v13] s) s.next mk0)
 (.cond (.t q34) .skip
 (.exit n2)))
 (.seq (.block n3 (.drw [] fun c r s K=>(fun z m=>binK .sub (r q9) I1 fun v0=>binK .sub (r q9) I1 fun v1=>ixs n1 (r q0) v1 fun v2=>dL z m (nat_lit 512) (nat_lit 480) s v2 fun v3 m s=>ixs n1 (r q0) (r q9) fun v4=>dL z m (nat_lit 8192) (nat_lit 7168) s v4 fun v5 m s=>ixs n1 (r q0) (r q9) fun v6=>dS z m (nat_lit 32768) (nat_lit 32739) s n1 v6 v3 fun _ m s=>ixs n1 (r q0) v0 fun v8=>dS z m (nat_lit 131072) (nat_lit 131071) s n1 v8 v5 fun _ m s=>K [] s) s.next mk0))
 (.reg [q9] fun c r s K=>binK .sub (r q9) I1 fun v0=>K [v0] s)))))))
 (.reg [q8] fun c r s K=>binK .add (r q8) I1 fun v0=>K [v0] s)))))),[],[q0,q1,q2,q3],[q10,q11,q12,q13,q17,q18,q19,q20,q21,q22,q23,q24,q25,q26,q27,q28,q29,q30,q31,q32,q33,q37,q38,q39,q40,q41,q42,q43,q44,q45,q46,q47,q48,q49,q50,q51,q52,q35,q36,q15,q16]⟩
noncomputable def hSift (z0:PdN):HF:=⟨
(.seq (.reg [q10] fun c r s K=>K [(r q1)] s)
 (.block n0 (.loop (.block n1 (.seq (.reg [q11] fun c r s K=>binK .mul I2 (r q10) fun v0=>binK .add v0 I1 fun v1=>K [v1] s)
 (.seq (.seq (.reg [q18] fun c r s K=>binK .geq (r q11) (r q2) fun v0=>K [v0] s)
 (.cond (.t q18) (.exit n0)
 .skip))
 (.seq (.seq (.drw [q40] fun c r s K=>(fun z m=>binK .add (r q11) I1 fun v0=>binK .lss v0 (r q2) fun v1=>jnD true v1 (fun jj=>jj (r q4) m s) m s fun v2 m s=>jnD true v1 (fun jj=>jj (r q0) m s) m s fun v3 m s=>jnD true v1 (fun jj=>jj (r q3) m s) m s fun v4 m s=>jnD true v1 (fun jj=>jj (r q11) m s) m s fun v5 m s=>jnD true v1 (fun jj=>binK .add v4 v5 fun v=>jj v m s) m s fun v6 m s=>jnD true v1 (fun jj=>ixs n1 v3 v6 fun v=>jj v m s) m s fun v7 m s=>jnD true v1 (fun jj=>dL z m (nat_lit 2048) (nat_lit 2015) s v7 jj) m s fun v8 m s=>jnD true v1 (fun jj=>jj (r q0) m s) m s fun v9 m s=>jnD true v1 (fun jj=>jj (r q3) m s) m s fun v10 m s=>jnD true v1 (fun jj=>jj (r q11) m s) m s fun v11 m s=>jnD true v1 (fun jj=>binK .add v10 v11 fun v=>jj v m s) m s fun v12 m s=>jnD true v1 (fun jj=>binK .add v12 I1 fun v=>jj v m s) m s fun v13 m s=>jnD true v1 (fun jj=>ixs n1 v9 v13 fun v=>jj v m s) m s fun v14 m s=>jnD true v1 (fun jj=>dL z m (nat_lit 262144) (nat_lit 258079) s v14 jj) m s fun v15 m s=>jnD true v1 (fun jj=>dw3 m (nat_lit 524288) (nat_lit 524287) s (fun s q=>h_op4_callV (.c v2) [(.c v8),(.c v15)] c r s q) jj) m s fun v16 m s=>jnD true v1 (fun jj=>binK .lss v16 I0 fun v=>jj v m s) m s fun v17 m s=>pck v1 v17 ff fun v18=>K [v18] s) s.next mk0)
 (.cond (.t q40) (.reg [q11] fun c r s K=>binK .add (r q11) I1 fun v0=>K [v0] s)
 .skip))
 (.seq (.seq (.drw [q58] fun c r s K=>(fun z m=>binK .add (r q3) (r q10) fun v0=>ixs n1 (r q0) v0 fun v1=>dL z m n64 n62 s v1 fun v2 m s=>binK .add (r q3) (r q11) fun v3=>ixs n1 (r q0) v3 fun v4=>dL z m (nat_lit 4096) (nat_lit 3968) s v4 fun v5 m s=>dw3 m (nat_lit 8192) (nat_lit 8191) s (fun s q=>h_op4_callV (.c (r q4)) [(.c v2),(.c v5)] c r s q) fun v6 m s=>binK .lss v6 I0 fun v7=>nott v7 fun v8=>K [v8] s) s.next mk0)
 (.cond (.t q58) .ret
 .skip))
 (.seq (.drw [] fun c r s K=>(fun z m=>binK .add (r q3) (r q10) fun v0=>binK .add (r q3) (r q11) fun v1=>binK .add (r q3) (r q11) fun v2=>ixs n1 (r q0) v2 fun v3=>dL z m (nat_lit 8192) (nat_lit 7936) s v3 fun v4 m s=>binK .add (r q3) (r q10) fun v5=>ixs n1 (r q0) v5 fun v6=>dL z m (nat_lit 524288) (nat_lit 507904) s v6 fun v7 m s=>ixs n1 (r q0) v0 fun v8=>dS z m (nat_lit 2097152) (nat_lit 2096911) s n1 v8 v4 fun _ m s=>ixs n1 (r q0) v1 fun v10=>dS z m (nat_lit 8388608) (nat_lit 8388607) s n1 v10 v7 fun _ m s=>K [] s) s.next mk0)
 (.reg [q10] fun c r s K=>K [(r q11)] s)))))))))),[],[q0,q1,q2,q3,q4],[q12,q13,q14,q15,q16,q17,q19,q20,q21,q22,q23,q24,q25,q26,q27,q28,q29,q30,q31,q32,q33,q34,q35,q36,q37,q38,q39,q41,q42,q43,q44,q45,q46,q47,q48,q49,q50,q51,q52,q53,q54,q55,q56,q57,q59,q60,q61,q62,q63,q64,q65,q66,q67,q68,q69,q70,q71,q72,q73,q74,q75,q76,q77,q78,q79,q80,q81]⟩
noncomputable def hHeap (z0:PdN):HF:=⟨
(.seq (.reg [q8] fun c r s K=>K [(r q1)] s)
 (.seq (.reg [q9] fun c r s K=>K [I0] s)
 (.seq (.reg [q10] fun c r s K=>binK .sub (r q2) (r q1) fun v0=>K [v0] s)
 (.seq (.seq (.reg [q11] fun c r s K=>binK .sub (r q10) I1 fun v0=>binK .quo v0 I2 fun v1=>K [v1] s)
 (.block n0 (.loop (.seq (.seq (.reg [q21] fun c r s K=>binK .geq (r q11) I0 fun v0=>K [v0] s)
 (.cond (.t q21) .skip
 (.exit n0)))
 (.seq (.block n1 (.reg [] fun c r s K=>c z0.sift [(r q0),(r q11),(r q10),(r q8),(r q3)] s fun v0 s=>K [] s))
 (.reg [q11] fun c r s K=>binK .sub (r q11) I1 fun v0=>K [v0] s))))))
 (.seq (.reg [q12] fun c r s K=>binK .sub (r q10) I1 fun v0=>K [v0] s)
 (.block n2 (.loop (.seq (.seq (.reg [q33] fun c r s K=>binK .geq (r q12) I0 fun v0=>K [v0] s)
 (.cond (.t q33) .skip
 (.exit n2)))
 (.seq (.block n3 (.seq (.drw [] fun c r s K=>(fun z m=>binK .add (r q8) (r q12) fun v0=>binK .add (r q8) (r q12) fun v1=>ixs n1 (r q0) v1 fun v2=>dL z m (nat_lit 2048) (nat_lit 1984) s v2 fun v3 m s=>ixs n1 (r q0) (r q8) fun v4=>dL z m (nat_lit 32768) (nat_lit 28672) s v4 fun v5 m s=>ixs n1 (r q0) (r q8) fun v6=>dS z m (nat_lit 131072) (nat_lit 131011) s n1 v6 v3 fun _ m s=>ixs n1 (r q0) v0 fun v8=>dS z m (nat_lit 524288) (nat_lit 524287) s n1 v8 v5 fun _ m s=>K [] s) s.next mk0)
 (.reg [] fun c r s K=>c z0.sift [(r q0),(r q9),(r q12),(r q8),(r q3)] s fun v0 s=>K [] s)))
 (.reg [q12] fun c r s K=>binK .sub (r q12) I1 fun v0=>K [v0] s)))))))))),[],[q0,q1,q2,q3],[q13,q14,q15,q16,q17,q18,q19,q20,q24,q25,q26,q27,q28,q29,q22,q23,q30,q31,q32,q36,q37,q38,q39,q40,q41,q42,q43,q44,q45,q46,q47,q48,q49,q50,q51,q52,q53,q54,q55,q56,q57,q58,q59,q34,q35]⟩
noncomputable def hPart (z0:PdN):HF:=⟨
(.seq (.reg [q10,q11] fun c r s K=>K [I0,ff] s)
 (.seq (.drw [] fun c r s K=>(fun z m=>ixs n1 (r q0) (r q3) fun v0=>dL z m n128 n112 s v0 fun v1 m s=>ixs n1 (r q0) (r q1) fun v2=>dL z m (nat_lit 2048) (nat_lit 1792) s v2 fun v3 m s=>ixs n1 (r q0) (r q1) fun v4=>dS z m (nat_lit 8192) (nat_lit 8179) s n1 v4 v1 fun _ m s=>ixs n1 (r q0) (r q3) fun v6=>dS z m (nat_lit 32768) (nat_lit 32767) s n1 v6 v3 fun _ m s=>K [] s) s.next mk0)
 (.seq (.reg [q12,q13] fun c r s K=>binK .add (r q1) I1 fun v0=>binK .sub (r q2) I1 fun v1=>K [v0,v1] s)
 (.seq (.block n0 (.loop (.seq (.seq (.drw [q47] fun c r s K=>(fun z m=>binK .leq (r q12) (r q13) fun v0=>jnD true v0 (fun jj=>jj (r q4) m s) m s fun v1 m s=>jnD true v0 (fun jj=>jj (r q0) m s) m s fun v2 m s=>jnD true v0 (fun jj=>jj (r q12) m s) m s fun v3 m s=>jnD true v0 (fun jj=>ixs n1 v2 v3 fun v=>jj v m s) m s fun v4 m s=>jnD true v0 (fun jj=>dL z m (nat_lit 256) (nat_lit 239) s v4 jj) m s fun v5 m s=>jnD true v0 (fun jj=>jj (r q0) m s) m s fun v6 m s=>jnD true v0 (fun jj=>jj (r q1) m s) m s fun v7 m s=>jnD true v0 (fun jj=>ixs n1 v6 v7 fun v=>jj v m s) m s fun v8 m s=>jnD true v0 (fun jj=>dL z m (nat_lit 4096) (nat_lit 3599) s v8 jj) m s fun v9 m s=>jnD true v0 (fun jj=>dw3 m (nat_lit 8192) (nat_lit 8191) s (fun s q=>h_op4_callV (.c v1) [(.c v5),(.c v9)] c r s q) jj) m s fun v10 m s=>jnD true v0 (fun jj=>binK .lss v10 I0 fun v=>jj v m s) m s fun v11 m s=>pck v0 v11 ff fun v12=>K [v12] s) s.next mk0)
 (.cond (.t q47) .skip
 (.exit n0)))
 (.block n1 (.reg [q12] fun c r s K=>binK .add (r q12) I1 fun v0=>K [v0] s)))))
 (.seq (.block n2 (.loop (.seq (.seq (.drw [q66] fun c r s K=>(fun z m=>binK .leq (r q12) (r q13) fun v0=>jnD true v0 (fun jj=>jj (r q4) m s) m s fun v1 m s=>jnD true v0 (fun jj=>jj (r q0) m s) m s fun v2 m s=>jnD true v0 (fun jj=>jj (r q13) m s) m s fun v3 m s=>jnD true v0 (fun jj=>ixs n1 v2 v3 fun v=>jj v m s) m s fun v4 m s=>jnD true v0 (fun jj=>dL z m (nat_lit 256) (nat_lit 239) s v4 jj) m s fun v5 m s=>jnD true v0 (fun jj=>jj (r q0) m s) m s fun v6 m s=>jnD true v0 (fun jj=>jj (r q1) m s) m s fun v7 m s=>jnD true v0 (fun jj=>ixs n1 v6 v7 fun v=>jj v m s) m s fun v8 m s=>jnD true v0 (fun jj=>dL z m (nat_lit 4096) (nat_lit 3599) s v8 jj) m s fun v9 m s=>jnD true v0 (fun jj=>dw3 m (nat_lit 8192) (nat_lit 8191) s (fun s q=>h_op4_callV (.c v1) [(.c v5),(.c v9)] c r s q) jj) m s fun v10 m s=>jnD true v0 (fun jj=>binK .lss v10 I0 fun v=>jj v m s) m s fun v11 m s=>jnD true v0 (fun jj=>nott v11 fun v=>jj v m s) m s fun v12 m s=>pck v0 v12 ff fun v13=>K [v13] s) s.next mk0)
 (.cond (.t q66) .skip
 (.exit n2)))
 (.block n3 (.reg [q13] fun c r s K=>binK .sub (r q13) I1 fun v0=>K [v0] s)))))
 (.seq (.seq (.reg [q71] fun c r s K=>binK .gtr (r q12) (r q13) fun v0=>K [v0] s)
 (.cond (.t q71) (.seq (.drw [] fun c r s K=>(fun z m=>ixs n1 (r q0) (r q1) fun v0=>dL z m n128 n112 s v0 fun v1 m s=>ixs n1 (r q0) (r q13) fun v2=>dL z m (nat_lit 2048) (nat_lit 1792) s v2 fun v3 m s=>ixs n1 (r q0) (r q13) fun v4=>dS z m (nat_lit 8192) (nat_lit 8179) s n1 v4 v1 fun _ m s=>ixs n1 (r q0) (r q1) fun v6=>dS z m (nat_lit 32768) (nat_lit 32767) s n1 v6 v3 fun _ m s=>K [] s) s.next mk0)
 (.seq (.reg [q10,q11] fun c r s K=>K [(r q13),tt] s)
 .ret))
 .skip))
 (.seq (.drw [] fun c r s K=>(fun z m=>ixs n1 (r q0) (r q13) fun v0=>dL z m n128 n112 s v0 fun v1 m s=>ixs n1 (r q0) (r q12) fun v2=>dL z m (nat_lit 2048) (nat_lit 1792) s v2 fun v3 m s=>ixs n1 (r q0) (r q12) fun v4=>dS z m (nat_lit 8192) (nat_lit 8179) s n1 v4 v1 fun _ m s=>ixs n1 (r q0) (r q13) fun v6=>dS z m (nat_lit 32768) (nat_lit 32767) s n1 v6 v3 fun _ m s=>K [] s) s.next mk0)
 (.seq (.reg [q12] fun c r s K=>binK .add (r q12) I1 fun v0=>K [v0] s)
 (.seq (.reg [q13] fun c r s K=>binK .sub (r q13) I1 fun v0=>K [v0] s)
 (.seq (.block n4 (.loop (.block n5 (.seq (.block n6 (.loop (.seq (.seq (.drw [q120] fun c r s K=>(fun z m=>binK .leq (r q12) (r q13) fun v0=>jnD true v0 (fun jj=>jj (r q4) m s) m s fun v1 m s=>jnD true v0 (fun jj=>jj (r q0) m s) m s fun v2 m s=>jnD true v0 (fun jj=>jj (r q12) m s) m s fun v3 m s=>jnD true v0 (fun jj=>ixs n1 v2 v3 fun v=>jj v m s) m s fun v4 m s=>jnD true v0 (fun jj=>dL z m (nat_lit 256) (nat_lit 239) s v4 jj) m s fun v5 m s=>jnD true v0 (fun jj=>jj (r q0) m s) m s fun v6 m s=>jnD true v0 (fun jj=>jj (r q1) m s) m s fun v7 m s=>jnD true v0 (fun jj=>ixs n1 v6 v7 fun v=>jj v m s) m s fun v8 m s=>jnD true v0 (fun jj=>dL z m (nat_lit 4096) (nat_lit 3599) s v8 jj) m s fun v9 m s=>jnD true v0 (fun jj=>dw3 m (nat_lit 8192) (nat_lit 8191) s (fun s q=>h_op4_callV (.c v1) [(.c v5),(.c v9)] c r s q) jj) m s fun v10 m s=>jnD true v0 (fun jj=>binK .lss v10 I0 fun v=>jj v m s) m s fun v11 m s=>pck v0 v11 ff fun v12=>K [v12] s) s.next mk0)
 (.cond (.t q120) .skip
 (.exit n6)))
 (.block n7 (.reg [q12] fun c r s K=>binK .add (r q12) I1 fun v0=>K [v0] s)))))
 (.seq (.block n8 (.loop (.seq (.seq (.drw [q139] fun c r s K=>(fun z m=>binK .leq (r q12) (r q13) fun v0=>jnD true v0 (fun jj=>jj (r q4) m s) m s fun v1 m s=>jnD true v0 (fun jj=>jj (r q0) m s) m s fun v2 m s=>jnD true v0 (fun jj=>jj (r q13) m s) m s fun v3 m s=>jnD true v0 (fun jj=>ixs n1 v2 v3 fun v=>jj v m s) m s fun v4 m s=>jnD true v0 (fun jj=>dL z m (nat_lit 256) (nat_lit 239) s v4 jj) m s fun v5 m s=>jnD true v0 (fun jj=>jj (r q0) m s) m s fun v6 m s=>jnD true v0 (fun jj=>jj (r q1) m s) m s fun v7 m s=>jnD true v0 (fun jj=>ixs n1 v6 v7 fun v=>jj v m s) m s fun v8 m s=>jnD true v0 (fun jj=>dL z m (nat_lit 4096) (nat_lit 3599) s v8 jj) m s fun v9 m s=>jnD true v0 (fun jj=>dw3 m (nat_lit 8192) (nat_lit 8191) s (fun s q=>h_op4_callV (.c v1) [(.c v5),(.c v9)] c r s q) jj) m s fun v10 m s=>jnD true v0 (fun jj=>binK .lss v10 I0 fun v=>jj v m s) m s fun v11 m s=>jnD true v0 (fun jj=>nott v11 fun v=>jj v m s) m s fun v12 m s=>pck v0 v12 ff fun v13=>K [v13] s) s.next mk0)
 (.cond (.t q139) .skip
 (.exit n8)))
 (.block n9 (.reg [q13] fun c r s K=>binK .sub (r q13) I1 fun v0=>K [v0] s)))))
 (.seq (.seq (.reg [q144] fun c r s K=>binK .gtr (r q12) (r q13) fun v0=>K [v0] s)
 (.cond (.t q144) (.exit n4)
 .skip))
 (.seq (.drw [] fun c r s K=>(fun z m=>ixs n1 (r q0) (r q13) fun v0=>dL z m n128 n112 s v0 fun v1 m s=>ixs n1 (r q0) (r q12) fun v2=>dL z m (nat_lit 2048) (nat_lit 1792) s v2 fun v3 m s=>ixs n1 (r q0) (r q12) fun v4=>dS z m (nat_lit 8192) (nat_lit 8179) s n1 v4 v1 fun _ m s=>ixs n1 (r q0) (r q13) fun v6=>dS z m (nat_lit 32768) (nat_lit 32767) s n1 v6 v3 fun _ m s=>K [] s) s.next mk0)
 (.seq (.reg [q12] fun c r s K=>binK .add (r q12) I1 fun v0=>K [v0] s)
 (.reg [q13] fun c r s K=>binK .sub (r q13) I1 fun v0=>K [v0] s)))))))))
 (.seq (.drw [] fun c r s K=>(fun z m=>ixs n1 (r q0) (r q1) fun v0=>dL z m n128 n112 s v0 fun v1 m s=>ixs n1 (r q0) (r q13) fun v2=>dL z m (nat_lit 2048) (nat_lit 1792) s v2 fun v3 m s=>ixs n1 (r q0) (r q13) fun v4=>dS z m (nat_lit 8192) (nat_lit 8179) s n1 v4 v1 fun _ m s=>ixs n1 (r q0) (r q1) fun v6=>dS z m (nat_lit 32768) (nat_lit 32767) s n1 v6 v3 fun _ m s=>K [] s) s.next mk0)
 (.seq (.reg [q10,q11] fun c r s K=>K [(r q13),ff] s)
 .ret)))))))))))),[(.tmp q10),(.tmp q11)],[q0,q1,q2,q3,q4],[q14,q15,q16,q17,q18,q19,q20,q21,q22,q23,q24,q25,q26,q27,q28,q29,q30,q31,q32,q33,q34,q35,q36,q37,q38,q39,q40,q41,q42,q43,q44,q45,q46,q48,q49,q50,q51,q52,q53,q54,q55,q56,q57,q58,q59,q60,q61,q62,q63,q64,q65,q67,q68,q69,q70,q72,q73,q74,q75,q76,q77,q78,q79,q80,q81,q82,q83,q84,q85,q86,q87,q88,q89,q90,q91,q92,q93,q94,q95,q96,q97,q98,q99,q100,q101,q102,q103,q104,q105,q106,q107,q108,q109,q110,q111,q112,q113,q114,q115,q116,q117,q118,q119,q121,q122,q123,q124,q125,q126,q127,q128,q129,q130,q131,q132,q133,q134,q135,q136,q137,q138,q140,q141,q142,q143,q145,q146,q147,q148,q149,q150,q151,q152,q153,q154,q155,q156,q157,q158,q159,q160,q161,q162,q163,q164,q165,q166,q167,q168,q169,q170,q171,q172,q173,q174,q175,q176,q177]⟩
noncomputable def hPIns (z0:PdN):HF:=⟨
(.seq (.reg [q8] fun c r s K=>K [ff] s)
 (.seq (.reg [q9] fun c r s K=>binK .add (r q1) I1 fun v0=>K [v0] s)
 (.seq (.seq (.reg [q10] fun c r s K=>K [I0] s)
 (.block n0 (.loop (.seq (.seq (.reg [q16] fun c r s K=>binK .lss (r q10) I5 fun v0=>K [v0] s)
 (.cond (.t q16) .skip
 (.exit n0)))
 (.seq (.block n1 (.seq (.block n2 (.loop (.seq (.seq (.drw [q36] fun c r s K=>(fun z m=>binK .lss (r q9) (r q2) fun v0=>jnD true v0 (fun jj=>jj (r q3) m s) m s fun v1 m s=>jnD true v0 (fun jj=>jj (r q0) m s) m s fun v2 m s=>jnD true v0 (fun jj=>jj (r q9) m s) m s fun v3 m s=>jnD true v0 (fun jj=>ixs n1 v2 v3 fun v=>jj v m s) m s fun v4 m s=>jnD true v0 (fun jj=>dL z m (nat_lit 256) (nat_lit 239) s v4 jj) m s fun v5 m s=>jnD true v0 (fun jj=>jj (r q0) m s) m s fun v6 m s=>jnD true v0 (fun jj=>jj (r q9) m s) m s fun v7 m s=>jnD true v0 (fun jj=>binK .sub v7 I1 fun v=>jj v m s) m s fun v8 m s=>jnD true v0 (fun jj=>ixs n1 v6 v8 fun v=>jj v m s) m s fun v9 m s=>jnD true v0 (fun jj=>dL z m (nat_lit 8192) (nat_lit 7695) s v9 jj) m s fun v10 m s=>jnD true v0 (fun jj=>dw3 m (nat_lit 16384) (nat_lit 16383) s (fun s q=>h_op4_callV (.c v1) [(.c v5),(.c v10)] c r s q) jj) m s fun v11 m s=>jnD true v0 (fun jj=>binK .lss v11 I0 fun v=>jj v m s) m s fun v12 m s=>jnD true v0 (fun jj=>nott v12 fun v=>jj v m s) m s fun v13 m s=>pck v0 v13 ff fun v14=>K [v14] s) s.next mk0)
 (.cond (.t q36) .skip
 (.exit n2)))
 (.block n3 (.reg [q9] fun c r s K=>binK .add (r q9) I1 fun v0=>K [v0] s)))))
 (.seq (.seq (.reg [q41] fun c r s K=>binK .eql (r q9) (r q2) fun v0=>K [v0] s)
 (.cond (.t q41) (.seq (.reg [q8] fun c r s K=>K [tt] s)
 .ret)
 .skip))
 (.seq (.seq (.reg [q45] fun c r s K=>binK .sub (r q2) (r q1) fun v0=>binK .lss v0 (i6 n50) fun v1=>K [v1] s)
 (.cond (.t q45) (.seq (.reg [q8] fun c r s K=>K [ff] s)
 .ret)
 .skip))
 (.seq (.drw [] fun c r s K=>(fun z m=>binK .sub (r q9) I1 fun v0=>binK .sub (r q9) I1 fun v1=>ixs n1 (r q0) v1 fun v2=>dL z m (nat_lit 512) (nat_lit 480) s v2 fun v3 m s=>ixs n1 (r q0) (r q9) fun v4=>dL z m (nat_lit 8192) (nat_lit 7168) s v4 fun v5 m s=>ixs n1 (r q0) (r q9) fun v6=>dS z m (nat_lit 32768) (nat_lit 32739) s n1 v6 v3 fun _ m s=>ixs n1 (r q0) v0 fun v8=>dS z m (nat_lit 131072) (nat_lit 131071) s n1 v8 v5 fun _ m s=>K [] s) s.next mk0)
 (.seq (.seq (.reg [q65] fun c r s K=>binK .sub (r q9) (r q1) fun v0=>binK .geq v0 I2 fun v1=>K [v1] s)
 (.cond (.t q65) (.seq (.reg [q11] fun c r s K=>binK .sub (r q9) I1 fun v0=>K [v0] s)
 (.block n4 (.loop (.seq (.seq (.reg [q69] fun c r s K=>binK .geq (r q11) I1 fun v0=>K [v0] s)
 (.cond (.t q69) .skip
 (.exit n4)))
 (.seq (.block n5 (.seq (.seq (.drw [q84] fun c r s K=>(fun z m=>ixs n1 (r q0) (r q11) fun v0=>dL z m n16 n14 s v0 fun v1 m s=>binK .sub (r q11) I1 fun v2=>ixs n1 (r q0) v2 fun v3=>dL z m (nat_lit 512) (nat_lit 480) s v3 fun v4 m s=>dw3 m (nat_lit 1024) (nat_lit 1023) s (fun s q=>h_op4_callV (.c (r q3)) [(.c v1),(.c v4)] c r s q) fun v5 m s=>binK .lss v5 I0 fun v6=>nott v6 fun v7=>K [v7] s) s.next mk0)
 (.cond (.t q84) (.exit n4)
 .skip))
 (.drw [] fun c r s K=>(fun z m=>binK .sub (r q11) I1 fun v0=>binK .sub (r q11) I1 fun v1=>ixs n1 (r q0) v1 fun v2=>dL z m (nat_lit 512) (nat_lit 480) s v2 fun v3 m s=>ixs n1 (r q0) (r q11) fun v4=>dL z m (nat_lit 8192) (nat_lit 7168) s v4 fun v5 m s=>ixs n1 (r q0) (r q11) fun v6=>dS z m (nat_lit 32768) (nat_lit 32739) s n1 v6 v3 fun _ m s=>ixs n1 (r q0) v0 fun v8=>dS z m (nat_lit 131072) (nat_lit 131071) s n1 v8 v5 fun _ m s=>K [] s) s.next mk0)))
 (.reg [q11] fun c r s K=>binK .sub (r q11) I1 fun v0=>K [v0] s))))))
 .skip))
 (.seq (.reg [q104] fun c r s K=>binK .sub (r q2) (r q9) fun v0=>binK .geq v0 I2 fun v1=>K [v1] s)
 (.cond (.t q104) (.seq (.reg [q12] fun c r s K=>binK .add (r q9) I1 fun v0=>K [v0] s)
 (.block n6 (.loop (.seq (.seq (.reg [q109] fun c r s K=>binK .lss (r q12) (r q2) fun v0=>K [v0] s)
 (.cond (.t q109) .skip
 (.exit n6)))
 (.seq (.block n7 (.seq (.seq (.drw [q124] fun c r s K=>(fun z m=>ixs n1 (r q0) (r q12) fun v0=>dL z m n16 n14 s v0 fun v1 m s=>binK .sub (r q12) I1 fun v2=>ixs n1 (r q0) v2 fun v3=>dL z m (nat_lit 512) (nat_lit 480) s v3 fun v4 m s=>dw3 m (nat_lit 1024) (nat_lit 1023) s (fun s q=>h_op4_callV (.c (r q3)) [(.c v1),(.c v4)] c r s q) fun v5 m s=>binK .lss v5 I0 fun v6=>nott v6 fun v7=>K [v7] s) s.next mk0)
 (.cond (.t q124) (.exit n6)
 .skip))
 (.drw [] fun c r s K=>(fun z m=>binK .sub (r q12) I1 fun v0=>binK .sub (r q12) I1 fun v1=>ixs n1 (r q0) v1 fun v2=>dL z m (nat_lit 512) (nat_lit 480) s v2 fun v3 m s=>ixs n1 (r q0) (r q12) fun v4=>dL z m (nat_lit 8192) (nat_lit 7168) s v4 fun v5 m s=>ixs n1 (r q0) (r q12) fun v6=>dS z m (nat_lit 32768) (nat_lit 32739) s n1 v6 v3 fun _ m s=>ixs n1 (r q0) v0 fun v8=>dS z m (nat_lit 131072) (nat_lit 131071) s n1 v8 v5 fun _ m s=>K [] s) s.next mk0)))
 (.reg [q12] fun c r s K=>binK .add (r q12) I1 fun v0=>K [v0] s))))))
 .skip))))))))
 (.reg [q10] fun c r s K=>binK .add (r q10) I1 fun v0=>K [v0] s))))))
 (.seq (.reg [q8] fun c r s K=>K [ff] s)
 .ret)))),[(.tmp q8)],[q0,q1,q2,q3],[q13,q14,q15,q19,q20,q21,q22,q23,q24,q25,q26,q27,q28,q29,q30,q31,q32,q33,q34,q35,q37,q38,q39,q40,q42,q43,q44,q46,q47,q48,q49,q50,q51,q52,q53,q54,q55,q56,q57,q58,q59,q60,q61,q62,q63,q64,q66,q67,q68,q72,q73,q74,q75,q76,q77,q78,q79,q80,q81,q82,q83,q85,q86,q87,q88,q89,q90,q91,q92,q93,q94,q95,q96,q97,q98,q99,q100,q70,q71,q101,q102,q103,q105,q106,q107,q108,q112,q113,q114,q115,q116,q117,q118,q119,q120,q121,q122,q123,q125,q126,q127,q128,q129,q130,q131,q132,q133,q134,q135,q136,q137,q138,q139,q140,q110,q111,q17,q18]⟩
noncomputable def hRev (z0:PdN):HF:=⟨
(.seq (.reg [q8] fun c r s K=>K [(r q1)] s)
 (.seq (.reg [q9] fun c r s K=>binK .sub (r q2) I1 fun v0=>K [v0] s)
 (.block n0 (.loop (.seq (.seq (.reg [q15] fun c r s K=>binK .lss (r q8) (r q9) fun v0=>K [v0] s)
 (.cond (.t q15) .skip
 (.exit n0)))
 (.block n1 (.seq (.drw [] fun c r s K=>(fun z m=>ixs n1 (r q0) (r q9) fun v0=>dL z m n128 n112 s v0 fun v1 m s=>ixs n1 (r q0) (r q8) fun v2=>dL z m (nat_lit 2048) (nat_lit 1792) s v2 fun v3 m s=>ixs n1 (r q0) (r q8) fun v4=>dS z m (nat_lit 8192) (nat_lit 8179) s n1 v4 v1 fun _ m s=>ixs n1 (r q0) (r q9) fun v6=>dS z m (nat_lit 32768) (nat_lit 32767) s n1 v6 v3 fun _ m s=>K [] s) s.next mk0)
 (.seq (.reg [q8] fun c r s K=>binK .add (r q8) I1 fun v0=>K [v0] s)
 (.reg [q9] fun c r s K=>binK .sub (r q9) I1 fun v0=>K [v0] s))))))))),[],[q0,q1,q2,q3],[q10,q11,q12,q13,q14,q16,q17,q18,q19,q20,q21,q22,q23,q24,q25,q26,q27,q28,q29,q30,q31,q32,q33]⟩
noncomputable def hBrk (z0:PdN):HF:=⟨
(.seq (.reg [q8] fun c r s K=>binK .sub (r q2) (r q1) fun v0=>K [v0] s)
 (.seq (.reg [q17] fun c r s K=>binK .geq (r q8) I8 fun v0=>K [v0] s)
 (.cond (.t q17) (.seq (.reg [q9] fun c r s K=>cnv .u64 (r q8) fun v0=>alc s [zu] fun v1 s=>sto s n1 v1 v0 fun s=>K [v1] s)
 (.seq (.reg [q10] fun c r s K=>c z0.nP [(r q8)] s fun v0 s=>K [v0] s)
 (.seq (.reg [q11] fun c r s K=>binK .quo (r q8) I4 fun v0=>binK .mul v0 I2 fun v1=>binK .add (r q1) v1 fun v2=>binK .sub v2 I1 fun v3=>K [v3] s)
 (.block n0 (.loop (.seq (.seq (.reg [q35] fun c r s K=>binK .quo (r q8) I4 fun v0=>binK .mul v0 I2 fun v1=>binK .add (r q1) v1 fun v2=>binK .add v2 I1 fun v3=>binK .leq (r q11) v3 fun v4=>K [v4] s)
 (.cond (.t q35) .skip
 (.exit n0)))
 (.seq (.block n1 (.seq (.reg [q12] fun c r s K=>c z0.nxt [(r q9)] s fun v0 s=>binK .sub (r q10) U1 fun v1=>binK .and v0 v1 fun v2=>cnv .i64 v2 fun v3=>K [v3] s)
 (.seq (.seq (.reg [q45] fun c r s K=>binK .geq (r q12) (r q8) fun v0=>K [v0] s)
 (.cond (.t q45) (.reg [q12] fun c r s K=>binK .sub (r q12) (r q8) fun v0=>K [v0] s)
 .skip))
 (.drw [] fun c r s K=>(fun z m=>binK .add (r q1) (r q12) fun v0=>binK .add (r q1) (r q12) fun v1=>ixs n1 (r q0) v1 fun v2=>dL z m (nat_lit 2048) (nat_lit 1984) s v2 fun v3 m s=>ixs n1 (r q0) (r q11) fun v4=>dL z m (nat_lit 32768) (nat_lit 28672) s v4 fun v5 m s=>ixs n1 (r q0) (r q11) fun v6=>dS z m (nat_lit 131072) (nat_lit 131011) s n1 v6 v3 fun _ m s=>ixs n1 (r q0) v0 fun v8=>dS z m (nat_lit 524288) (nat_lit 524287) s n1 v8 v5 fun _ m s=>K [] s) s.next mk0))))
 (.reg [q11] fun c r s K=>binK .add (r q11) I1 fun v0=>K [v0] s))))))))
 .skip))),[],[q0,q1,q2,q3],[q13,q14,q15,q16,q18,q19,q20,q21,q22,q23,q24,q25,q26,q27,q28,q29,q30,q31,q32,q33,q34,q38,q39,q40,q41,q42,q43,q44,q46,q47,q48,q49,q50,q51,q52,q53,q54,q55,q56,q57,q58,q59,q60,q61,q62,q63,q64,q65,q66,q36,q37]⟩
noncomputable def hNP (z0:PdN):HF:=⟨
(.seq (.reg [q2] fun c r s K=>K [U0] s)
 (.seq (.reg [q2] fun c r s K=>cnv .u64 (r q0) fun v0=>c z0.len [v0] s fun v1 s=>xS true U1 v1 c r s fun v2 s=>K [v2] s)
 .ret)),[(.tmp q2)],[q0],[q3,q4,q5,q6]⟩
noncomputable def hNxt (z0:PdN):HF:=⟨
(.seq (.reg [q2] fun c r s K=>K [U0] s)
 (.seq (.drw [] fun c r s K=>(fun z m=>xC (r q0) c r s fun v0 s=>dL z m n4 n3 s v0 fun v1 m s=>xC (r q0) c r s fun v2 s=>dL z m n32 n24 s v2 fun v3 m s=>xS true v3 U13 c r s fun v4 s=>binK .xor v1 v4 fun v5=>xC (r q0) c r s fun v6 s=>dS z m (nat_lit 512) (nat_lit 511) s n1 v6 v5 fun _ m s=>K [] s) s.next mk0)
 (.seq (.drw [] fun c r s K=>(fun z m=>xC (r q0) c r s fun v0 s=>dL z m n4 n3 s v0 fun v1 m s=>xC (r q0) c r s fun v2 s=>dL z m n32 n24 s v2 fun v3 m s=>xS false v3 U7 c r s fun v4 s=>binK .xor v1 v4 fun v5=>xC (r q0) c r s fun v6 s=>dS z m (nat_lit 512) (nat_lit 511) s n1 v6 v5 fun _ m s=>K [] s) s.next mk0)
 (.seq (.drw [] fun c r s K=>(fun z m=>xC (r q0) c r s fun v0 s=>dL z m n4 n3 s v0 fun v1 m s=>xC (r q0) c r s fun v2 s=>dL z m n32 n24 s v2 fun v3 m s=>xS true v3 U17 c r s fun v4 s=>binK .xor v1 v4 fun v5=>xC (r q0) c r s fun v6 s=>dS z m (nat_lit 512) (nat_lit 511) s n1 v6 v5 fun _ m s=>K [] s) s.next mk0)
 (.seq (.reg [q2] fun c r s K=>xC (r q0) c r s fun v0 s=>ld s v0 fun v1=>K [v1] s)
 .ret))))),[(.tmp q2)],[q0],[q3,q4,q5,q6,q7,q8,q9,q10,q11,q12,q13,q14,q15,q16,q17,q18,q19,q20,q21,q22,q23,q24,q25,q26,q27,q28,q29,q30,q31,q32]⟩
noncomputable def hLen (z0:PdN):HF:=⟨
(.seq (.reg [q2] fun c r s K=>K [I0] s)
 (.seq (.cond (.c (.sc (.bool false))) (.seq (.reg [q2] fun c r s K=>cnv .u32 (r q0) fun v0=>c z0.len32 [v0] s fun v1 s=>K [v1] s)
 .ret)
 .skip)
 (.seq (.reg [q2] fun c r s K=>c z0.len64 [(r q0)] s fun v0 s=>K [v0] s)
 .ret))),[(.tmp q2)],[q0],[q3,q4,q5,q6,q7]⟩
noncomputable def hLen64 (z0:PdN):HF:=⟨
(.seq (.reg [q2] fun c r s K=>K [I0] s)
 (.seq (.seq (.reg [q4] fun c r s K=>binK .geq (r q0) (u6 (nat_lit 4294967296)) fun v0=>K [v0] s)
 (.cond (.t q4) (.seq (.reg [q0] fun c r s K=>xS false (r q0) U32 c r s fun v0 s=>K [v0] s)
 (.reg [q2] fun c r s K=>K [I32] s))
 .skip))
 (.seq (.seq (.reg [q8] fun c r s K=>binK .geq (r q0) (u6 (nat_lit 65536)) fun v0=>K [v0] s)
 (.cond (.t q8) (.seq (.reg [q0] fun c r s K=>xS false (r q0) U16 c r s fun v0 s=>K [v0] s)
 (.reg [q2] fun c r s K=>binK .add (r q2) I16 fun v0=>K [v0] s))
 .skip))
 (.seq (.seq (.reg [q14] fun c r s K=>binK .geq (r q0) (u6 (nat_lit 256)) fun v0=>K [v0] s)
 (.cond (.t q14) (.seq (.reg [q0] fun c r s K=>xS false (r q0) U8 c r s fun v0 s=>K [v0] s)
 (.reg [q2] fun c r s K=>binK .add (r q2) I8 fun v0=>K [v0] s))
 .skip))
 (.seq (.reg [q2] fun c r s K=>cnv .u8 (r q0) fun v0=>h_op4_byteAt (.c (.sc (.lit (.string ⟨#[0,1,2,2,3,3,3,3,4,4,4,4,4,4,4,4,5,5,5,5,5,5,5,5,5,5,5,5,5,5,5,5,6,6,6,6,6,6,6,6,6,6,6,6,6,6,6,6,6,6,6,6,6,6,6,6,6,6,6,6,6,6,6,6,7,7,7,7,7,7,7,7,7,7,7,7,7,7,7,7,7,7,7,7,7,7,7,7,7,7,7,7,7,7,7,7,7,7,7,7,7,7,7,7,7,7,7,7,7,7,7,7,7,7,7,7,7,7,7,7,7,7,7,7,7,7,7,7,8,8,8,8,8,8,8,8,8,8,8,8,8,8,8,8,8,8,8,8,8,8,8,8,8,8,8,8,8,8,8,8,8,8,8,8,8,8,8,8,8,8,8,8,8,8,8,8,8,8,8,8,8,8,8,8,8,8,8,8,8,8,8,8,8,8,8,8,8,8,8,8,8,8,8,8,8,8,8,8,8,8,8,8,8,8,8,8,8,8,8,8,8,8,8,8,8,8,8,8,8,8,8,8,8,8,8,8,8,8,8,8,8,8,8,8,8,8,8,8,8,8,8,8,8,8,8,8]⟩)))) (.c v0) c r s fun v1 s=>cnv .i64 v1 fun v2=>binK .add (r q2) v2 fun v3=>K [v3] s)
 .ret))))),[(.tmp q2)],[q0],[q3,q5,q6,q7,q9,q10,q11,q12,q13,q15,q16,q17,q18,q19,q20,q21,q22,q23,q24]⟩
noncomputable def hOrd2 (z0:PdN):HF:=⟨
(.seq (.reg [q10,q11] fun c r s K=>K [I0,I0] s)
 (.seq (.seq (.drw [q22] fun c r s K=>(fun z m=>ixs n1 (r q0) (r q2) fun v0=>dL z m n16 n14 s v0 fun v1 m s=>ixs n1 (r q0) (r q1) fun v2=>dL z m (nat_lit 256) (nat_lit 224) s v2 fun v3 m s=>dw3 m (nat_lit 512) (nat_lit 511) s (fun s q=>h_op4_callV (.c (r q4)) [(.c v1),(.c v3)] c r s q) fun v4 m s=>binK .lss v4 I0 fun v5=>K [v5] s) s.next mk0)
 (.cond (.t q22) (.seq (.reg [] fun c r s K=>xC (r q3) c r s fun v0 s=>ld s v0 fun v1=>binK .add v1 I1 fun v2=>xC (r q3) c r s fun v3 s=>sto s n1 v3 v2 fun s=>K [] s)
 (.seq (.reg [q10,q11] fun c r s K=>K [(r q2),(r q1)] s)
 .ret))
 .skip))
 (.seq (.reg [q10,q11] fun c r s K=>K [(r q1),(r q2)] s)
 .ret))),[(.tmp q10),(.tmp q11)],[q0,q1,q2,q3,q4],[q12,q13,q14,q15,q16,q17,q18,q19,q20,q21,q23,q24,q25,q26,q27,q28,q29,q30,q31]⟩
noncomputable def hMed (z0:PdN):HF:=⟨
(.seq (.reg [q12] fun c r s K=>K [I0] s)
 (.seq (.reg [q1,q2] fun c r s K=>c z0.ord2 [(r q0),(r q1),(r q2),(r q4),(r q5)] s fun v0 s=>xE n0 v0 c r s fun v1 s=>xE n1 v0 c r s fun v2 s=>K [v1,v2] s)
 (.seq (.reg [q2,q3] fun c r s K=>c z0.ord2 [(r q0),(r q2),(r q3),(r q4),(r q5)] s fun v0 s=>xE n0 v0 c r s fun v1 s=>xE n1 v0 c r s fun v2 s=>K [v1,v2] s)
 (.seq (.reg [q1,q2] fun c r s K=>c z0.ord2 [(r q0),(r q1),(r q2),(r q4),(r q5)] s fun v0 s=>xE n0 v0 c r s fun v1 s=>xE n1 v0 c r s fun v2 s=>K [v1,v2] s)
 (.seq (.reg [q12] fun c r s K=>K [(r q2)] s)
 .ret))))),[(.tmp q12)],[q0,q1,q2,q3,q4,q5],[q14,q15,q16,q17,q18,q19,q13,q20,q21,q23,q24,q25,q26,q27,q28,q22,q29,q30,q32,q33,q34,q35,q36,q37,q31,q38,q39,q40]⟩
noncomputable def hMedA (z0:PdN):HF:=⟨
(.seq (.reg [q8] fun c r s K=>K [I0] s)
 (.seq (.reg [q8] fun c r s K=>binK .sub (r q1) I1 fun v0=>binK .add (r q1) I1 fun v1=>c z0.med [(r q0),v0,(r q1),v1,(r q2),(r q3)] s fun v2 s=>K [v2] s)
 .ret)),[(.tmp q8)],[q0,q1,q2,q3],[q9,q10,q11,q12,q13,q14,q15,q16,q17]⟩
noncomputable def hPiv (z0:PdN):HF:=⟨
(.seq (.reg [q8,q9] fun c r s K=>K [I0,I0] s)
 (.seq (.reg [q10] fun c r s K=>binK .sub (r q2) (r q1) fun v0=>K [v0] s)
 (.seq (.reg [q11] fun c r s K=>alc s [zi] fun v0 s=>K [v0] s)
 (.seq (.reg [q12] fun c r s K=>binK .quo (r q10) I4 fun v0=>binK .mul v0 I1 fun v1=>binK .add (r q1) v1 fun v2=>K [v2] s)
 (.seq (.reg [q13] fun c r s K=>binK .quo (r q10) I4 fun v0=>binK .mul v0 I2 fun v1=>binK .add (r q1) v1 fun v2=>K [v2] s)
 (.seq (.reg [q14] fun c r s K=>binK .quo (r q10) I4 fun v0=>binK .mul v0 I3 fun v1=>binK .add (r q1) v1 fun v2=>K [v2] s)
 (.seq (.seq (.reg [q34] fun c r s K=>binK .geq (r q10) I8 fun v0=>K [v0] s)
 (.cond (.t q34) (.seq (.seq (.reg [q36] fun c r s K=>binK .geq (r q10) (i6 n50) fun v0=>K [v0] s)
 (.cond (.t q36) (.seq (.reg [q12] fun c r s K=>c z0.medA [(r q0),(r q12),(r q11),(r q3)] s fun v0 s=>K [v0] s)
 (.seq (.reg [q13] fun c r s K=>c z0.medA [(r q0),(r q13),(r q11),(r q3)] s fun v0 s=>K [v0] s)
 (.reg [q14] fun c r s K=>c z0.medA [(r q0),(r q14),(r q11),(r q3)] s fun v0 s=>K [v0] s)))
 .skip))
 (.reg [q13] fun c r s K=>c z0.med [(r q0),(r q12),(r q13),(r q14),(r q11),(r q3)] s fun v0 s=>K [v0] s))
 .skip))
 (.seq (.reg [q55] fun c r s K=>ld s (r q11) fun v0=>K [v0] s)
 (.block n0 (.seq (.reg [q57] fun c r s K=>binK .eql (r q55) I0 fun v0=>K [v0] s)
 (.cond (.t q57) (.seq (.reg [q8,q9] fun c r s K=>K [(r q13),I1] s)
 .ret)
 (.seq (.reg [q60] fun c r s K=>binK .eql (r q55) I12 fun v0=>K [v0] s)
 (.cond (.t q60) (.seq (.reg [q8,q9] fun c r s K=>K [(r q13),I2] s)
 .ret)
 (.seq (.reg [q8,q9] fun c r s K=>K [(r q13),I0] s)
 .ret)))))))))))))),[(.tmp q8),(.tmp q9)],[q0,q1,q2,q3],[q15,q16,q17,q18,q19,q20,q21,q22,q23,q24,q25,q26,q27,q28,q29,q30,q31,q32,q33,q35,q37,q38,q39,q40,q41,q42,q43,q44,q45,q46,q47,q48,q49,q50,q51,q52,q53,q54,q58,q59,q61,q62,q56]⟩
noncomputable def hPEq (z0:PdN):HF:=⟨
(.seq (.reg [q10] fun c r s K=>K [I0] s)
 (.seq (.drw [] fun c r s K=>(fun z m=>ixs n1 (r q0) (r q3) fun v0=>dL z m n128 n112 s v0 fun v1 m s=>ixs n1 (r q0) (r q1) fun v2=>dL z m (nat_lit 2048) (nat_lit 1792) s v2 fun v3 m s=>ixs n1 (r q0) (r q1) fun v4=>dS z m (nat_lit 8192) (nat_lit 8179) s n1 v4 v1 fun _ m s=>ixs n1 (r q0) (r q3) fun v6=>dS z m (nat_lit 32768) (nat_lit 32767) s n1 v6 v3 fun _ m s=>K [] s) s.next mk0)
 (.seq (.reg [q11,q12] fun c r s K=>binK .add (r q1) I1 fun v0=>binK .sub (r q2) I1 fun v1=>K [v0,v1] s)
 (.seq (.block n0 (.loop (.block n1 (.seq (.block n2 (.loop (.seq (.seq (.drw [q47] fun c r s K=>(fun z m=>binK .leq (r q11) (r q12) fun v0=>jnD true v0 (fun jj=>jj (r q4) m s) m s fun v1 m s=>jnD true v0 (fun jj=>jj (r q0) m s) m s fun v2 m s=>jnD true v0 (fun jj=>jj (r q1) m s) m s fun v3 m s=>jnD true v0 (fun jj=>ixs n1 v2 v3 fun v=>jj v m s) m s fun v4 m s=>jnD true v0 (fun jj=>dL z m (nat_lit 256) (nat_lit 239) s v4 jj) m s fun v5 m s=>jnD true v0 (fun jj=>jj (r q0) m s) m s fun v6 m s=>jnD true v0 (fun jj=>jj (r q11) m s) m s fun v7 m s=>jnD true v0 (fun jj=>ixs n1 v6 v7 fun v=>jj v m s) m s fun v8 m s=>jnD true v0 (fun jj=>dL z m (nat_lit 4096) (nat_lit 3599) s v8 jj) m s fun v9 m s=>jnD true v0 (fun jj=>dw3 m (nat_lit 8192) (nat_lit 8191) s (fun s q=>h_op4_callV (.c v1) [(.c v5),(.c v9)] c r s q) jj) m s fun v10 m s=>jnD true v0 (fun jj=>binK .lss v10 I0 fun v=>jj v m s) m s fun v11 m s=>jnD true v0 (fun jj=>nott v11 fun v=>jj v m s) m s fun v12 m s=>pck v0 v12 ff fun v13=>K [v13] s) s.next mk0)
 (.cond (.t q47) .skip
 (.exit n2)))
 (.block n3 (.reg [q11] fun c r s K=>binK .add (r q11) I1 fun v0=>K [v0] s)))))
 (.seq (.block n4 (.loop (.seq (.seq (.drw [q65] fun c r s K=>(fun z m=>binK .leq (r q11) (r q12) fun v0=>jnD true v0 (fun jj=>jj (r q4) m s) m s fun v1 m s=>jnD true v0 (fun jj=>jj (r q0) m s) m s fun v2 m s=>jnD true v0 (fun jj=>jj (r q1) m s) m s fun v3 m s=>jnD true v0 (fun jj=>ixs n1 v2 v3 fun v=>jj v m s) m s fun v4 m s=>jnD true v0 (fun jj=>dL z m (nat_lit 256) (nat_lit 239) s v4 jj) m s fun v5 m s=>jnD true v0 (fun jj=>jj (r q0) m s) m s fun v6 m s=>jnD true v0 (fun jj=>jj (r q12) m s) m s fun v7 m s=>jnD true v0 (fun jj=>ixs n1 v6 v7 fun v=>jj v m s) m s fun v8 m s=>jnD true v0 (fun jj=>dL z m (nat_lit 4096) (nat_lit 3599) s v8 jj) m s fun v9 m s=>jnD true v0 (fun jj=>dw3 m (nat_lit 8192) (nat_lit 8191) s (fun s q=>h_op4_callV (.c v1) [(.c v5),(.c v9)] c r s q) jj) m s fun v10 m s=>jnD true v0 (fun jj=>binK .lss v10 I0 fun v=>jj v m s) m s fun v11 m s=>pck v0 v11 ff fun v12=>K [v12] s) s.next mk0)
 (.cond (.t q65) .skip
 (.exit n4)))
 (.block n5 (.reg [q12] fun c r s K=>binK .sub (r q12) I1 fun v0=>K [v0] s)))))
 (.seq (.seq (.reg [q70] fun c r s K=>binK .gtr (r q11) (r q12) fun v0=>K [v0] s)
 (.cond (.t q70) (.exit n0)
 .skip))
 (.seq (.drw [] fun c r s K=>(fun z m=>ixs n1 (r q0) (r q12) fun v0=>dL z m n128 n112 s v0 fun v1 m s=>ixs n1 (r q0) (r q11) fun v2=>dL z m (nat_lit 2048) (nat_lit 1792) s v2 fun v3 m s=>ixs n1 (r q0) (r q11) fun v4=>dS z m (nat_lit 8192) (nat_lit 8179) s n1 v4 v1 fun _ m s=>ixs n1 (r q0) (r q12) fun v6=>dS z m (nat_lit 32768) (nat_lit 32767) s n1 v6 v3 fun _ m s=>K [] s) s.next mk0)
 (.seq (.reg [q11] fun c r s K=>binK .add (r q11) I1 fun v0=>K [v0] s)
 (.reg [q12] fun c r s K=>binK .sub (r q12) I1 fun v0=>K [v0] s)))))))))
 (.seq (.reg [q10] fun c r s K=>K [(r q11)] s)
 .ret))))),[(.tmp q10)],[q0,q1,q2,q3,q4],[q13,q14,q15,q16,q17,q18,q19,q20,q21,q22,q23,q24,q25,q26,q27,q28,q29,q30,q31,q32,q33,q34,q35,q36,q37,q38,q39,q40,q41,q42,q43,q44,q45,q46,q48,q49,q50,q51,q52,q53,q54,q55,q56,q57,q58,q59,q60,q61,q62,q63,q64,q66,q67,q68,q69,q71,q72,q73,q74,q75,q76,q77,q78,q79,q80,q81,q82,q83,q84,q85,q86,q87,q88,q89]⟩
noncomputable def hPdq (z0:PdN):HF:=⟨
(.seq (.reg [q10] fun c r s K=>K [tt] s)
 (.seq (.reg [q11] fun c r s K=>K [tt] s)
 (.block n0 (.loop (.block n1 (.seq (.reg [q12] fun c r s K=>binK .sub (r q2) (r q1) fun v0=>K [v0] s)
 (.seq (.seq (.reg [q25] fun c r s K=>binK .leq (r q12) I12 fun v0=>K [v0] s)
 (.cond (.t q25) (.seq (.reg [] fun c r s K=>c z0.ins [(r q0),(r q1),(r q2),(r q4)] s fun v0 s=>K [] s)
 .ret)
 .skip))
 (.seq (.seq (.reg [q32] fun c r s K=>binK .eql (r q3) I0 fun v0=>K [v0] s)
 (.cond (.t q32) (.seq (.reg [] fun c r s K=>c z0.heap [(r q0),(r q1),(r q2),(r q4)] s fun v0 s=>K [] s)
 .ret)
 .skip))
 (.seq (.seq (.reg [q39] fun c r s K=>nott (r q10) fun v0=>K [v0] s)
 (.cond (.t q39) (.seq (.reg [] fun c r s K=>c z0.brk [(r q0),(r q1),(r q2),(r q4)] s fun v0 s=>K [] s)
 (.reg [q3] fun c r s K=>binK .sub (r q3) I1 fun v0=>K [v0] s))
 .skip))
 (.seq (.reg [q13,q14] fun c r s K=>c z0.piv [(r q0),(r q1),(r q2),(r q4)] s fun v0 s=>xE n0 v0 c r s fun v1 s=>xE n1 v0 c r s fun v2 s=>K [v1,v2] s)
 (.seq (.seq (.reg [q56] fun c r s K=>binK .eql (r q14) I2 fun v0=>K [v0] s)
 (.cond (.t q56) (.seq (.reg [] fun c r s K=>c z0.rev [(r q0),(r q1),(r q2),(r q4)] s fun v0 s=>K [] s)
 (.seq (.reg [q13] fun c r s K=>binK .sub (r q2) I1 fun v0=>binK .sub (r q13) (r q1) fun v1=>binK .sub v0 v1 fun v2=>K [v2] s)
 (.reg [q14] fun c r s K=>K [I1] s)))
 .skip))
 (.seq (.seq (.reg [q75] fun c r s K=>mt (r q10) (r q11) s fun v0 s=>pck (r q10) v0 ff fun v1=>mt v1 (r q14) s fun v2 s=>jt v1 (binK .eql v2 I1) s fun v3 s=>pck v1 v3 ff fun v4=>K [v4] s)
 (.cond (.t q75) (.seq (.reg [q80] fun c r s K=>c z0.pIns [(r q0),(r q1),(r q2),(r q4)] s fun v0 s=>K [v0] s)
 (.cond (.t q80) .ret
 .skip))
 .skip))
 (.seq (.seq (.drw [q97] fun c r s K=>(fun z m=>binK .gtr (r q1) I0 fun v0=>jnD true v0 (fun jj=>jj (r q4) m s) m s fun v1 m s=>jnD true v0 (fun jj=>jj (r q0) m s) m s fun v2 m s=>jnD true v0 (fun jj=>jj (r q1) m s) m s fun v3 m s=>jnD true v0 (fun jj=>binK .sub v3 I1 fun v=>jj v m s) m s fun v4 m s=>jnD true v0 (fun jj=>ixs n1 v2 v4 fun v=>jj v m s) m s fun v5 m s=>jnD true v0 (fun jj=>dL z m (nat_lit 256) (nat_lit 247) s v5 jj) m s fun v6 m s=>jnD true v0 (fun jj=>jj (r q0) m s) m s fun v7 m s=>jnD true v0 (fun jj=>jj (r q13) m s) m s fun v8 m s=>jnD true v0 (fun jj=>ixs n1 v7 v8 fun v=>jj v m s) m s fun v9 m s=>jnD true v0 (fun jj=>dL z m (nat_lit 4096) (nat_lit 3591) s v9 jj) m s fun v10 m s=>jnD true v0 (fun jj=>dw3 m (nat_lit 8192) (nat_lit 8191) s (fun s q=>h_op4_callV (.c v1) [(.c v6),(.c v10)] c r s q) jj) m s fun v11 m s=>jnD true v0 (fun jj=>binK .lss v11 I0 fun v=>jj v m s) m s fun v12 m s=>jnD true v0 (fun jj=>nott v12 fun v=>jj v m s) m s fun v13 m s=>pck v0 v13 ff fun v14=>K [v14] s) s.next mk0)
 (.cond (.t q97) (.seq (.reg [q15] fun c r s K=>c z0.pEq [(r q0),(r q1),(r q2),(r q13),(r q4)] s fun v0 s=>K [v0] s)
 (.seq (.reg [q1] fun c r s K=>K [(r q15)] s)
 (.exit n1)))
 .skip))
 (.seq (.reg [q16,q17] fun c r s K=>c z0.part [(r q0),(r q1),(r q2),(r q13),(r q4)] s fun v0 s=>xE n0 v0 c r s fun v1 s=>xE n1 v0 c r s fun v2 s=>K [v1,v2] s)
 (.seq (.reg [q11] fun c r s K=>K [(r q17)] s)
 (.seq (.reg [q18,q19] fun c r s K=>binK .sub (r q16) (r q1) fun v0=>binK .sub (r q2) (r q16) fun v1=>K [v0,v1] s)
 (.seq (.reg [q20] fun c r s K=>binK .quo (r q12) I8 fun v0=>K [v0] s)
 (.seq (.reg [q125] fun c r s K=>binK .lss (r q18) (r q19) fun v0=>K [v0] s)
 (.cond (.t q125) (.seq (.reg [q10] fun c r s K=>binK .geq (r q18) (r q20) fun v0=>K [v0] s)
 (.seq (.reg [] fun c r s K=>c z0.pdq [(r q0),(r q1),(r q16),(r q3),(r q4)] s fun v0 s=>K [] s)
 (.reg [q1] fun c r s K=>binK .add (r q16) I1 fun v0=>K [v0] s)))
 (.seq (.reg [q10] fun c r s K=>binK .geq (r q19) (r q20) fun v0=>K [v0] s)
 (.seq (.reg [] fun c r s K=>binK .add (r q16) I1 fun v0=>c z0.pdq [(r q0),v0,(r q2),(r q3),(r q4)] s fun v1 s=>K [] s)
 (.reg [q2] fun c r s K=>K [(r q16)] s)))))))))))))))))))))),[],[q0,q1,q2,q3,q4],[q21,q22,q23,q24,q26,q27,q28,q29,q30,q31,q33,q34,q35,q36,q37,q38,q40,q41,q42,q43,q44,q45,q46,q48,q49,q50,q51,q52,q47,q53,q54,q55,q57,q58,q59,q60,q61,q62,q63,q64,q65,q66,q67,q68,q69,q70,q71,q72,q73,q74,q76,q77,q78,q79,q81,q82,q83,q84,q85,q86,q87,q88,q89,q90,q91,q92,q93,q94,q95,q96,q98,q99,q100,q101,q102,q103,q104,q106,q107,q108,q109,q110,q111,q105,q112,q113,q114,q115,q116,q117,q118,q119,q120,q121,q122,q123,q124,q126,q127,q128,q129,q130,q131,q132,q133,q134,q135,q136,q137,q138,q139,q140,q141,q142,q143,q144,q145,q146,q147]⟩
noncomputable def hSortF (z0:PdN):HF:=⟨
(.seq (.reg [q4] fun c r s K=>lnS (r q0) fun v0=>K [v0] s)
 (.reg [] fun c r s K=>cnv .u64 (r q4) fun v0=>c z0.len [v0] s fun v1 s=>c z0.pdq [(r q0),I0,(r q4),v1,(r q1)] s fun v2 s=>K [] s)),[],[q0,q1],[q5,q6,q7,q8,q9,q10,q11,q12,q13]⟩
structure PdAt (F:Nat→Option HF) (z0:PdN):Prop where
 ins:F z0.ins=some (hIns z0)∧Nat.blt z0.ins yBase=true
 sift:F z0.sift=some (hSift z0)∧Nat.blt z0.sift yBase=true
 heap:F z0.heap=some (hHeap z0)∧Nat.blt z0.heap yBase=true
 part:F z0.part=some (hPart z0)∧Nat.blt z0.part yBase=true
 pIns:F z0.pIns=some (hPIns z0)∧Nat.blt z0.pIns yBase=true
 rev:F z0.rev=some (hRev z0)∧Nat.blt z0.rev yBase=true
 brk:F z0.brk=some (hBrk z0)∧Nat.blt z0.brk yBase=true
 nP:F z0.nP=some (hNP z0)∧Nat.blt z0.nP yBase=true
 nxt:F z0.nxt=some (hNxt z0)∧Nat.blt z0.nxt yBase=true
 len:F z0.len=some (hLen z0)∧Nat.blt z0.len yBase=true
 len64:F z0.len64=some (hLen64 z0)∧Nat.blt z0.len64 yBase=true
 ord2:F z0.ord2=some (hOrd2 z0)∧Nat.blt z0.ord2 yBase=true
 med:F z0.med=some (hMed z0)∧Nat.blt z0.med yBase=true
 medA:F z0.medA=some (hMedA z0)∧Nat.blt z0.medA yBase=true
 piv:F z0.piv=some (hPiv z0)∧Nat.blt z0.piv yBase=true
 pEq:F z0.pEq=some (hPEq z0)∧Nat.blt z0.pEq yBase=true
 pdq:F z0.pdq=some (hPdq z0)∧Nat.blt z0.pdq yBase=true
 sortF:F z0.sortF=some (hSortF z0)∧Nat.blt z0.sortF yBase=true
end
section
variable {F:Nat→Option HF}{s t u s0:St}{id off m a b:Nat}{cap:Option Nat}{es es' es0:List S}{v:S}{lt:S→S→Bool}
@[simp] theorem imul0 (a b:Int) (K:V→R) (h: -9223372036854775808≤a * b) (h':a * b<9223372036854775808):binK .mul (iv a) (iv b) K=K (iv (a * b)):=by
 rw [show binK .mul (iv a) (iv b) K=_ from bin_mul _ _ _ _,wrap_i64' h h'];rfl
theorem resP.nil0 {ρ:Ev}{st:St}{P:V→St→Prop} (h:P (.tup []) st):resP [] ρ st P:=⟨.tup [],h,fun K tm _=>rfl⟩
theorem Ca.ofU {F:Nat→Option HF}{f:Nat}{hf:HF}{args:List V}{st:St}{P:V→St→Prop} (h0:F f=some hf) (hb:Nat.blt f yBase=true) {b:HC} (ags:List Pth) (rs:List RV) (eb:hf.body=b) (ea:hf.args=ags) (er:hf.results=rs)
  (h:∀ Q:X→Ev→St→Prop,(∀ ρ s,resP rs ρ s P→Q .ret ρ s∧Q .normal ρ s)→Ru (cF F) b (updE ags args ev0) st Q):Ca (cF F) f args st P:=by
 subst eb;subst ea;subst er
 replace h:=h (Fin hf.results P) (fun ρ s h=>⟨h,h⟩)
 obtain ⟨x,t,s,h1,n,h2⟩:=h (setLp hf.args args .leaf) (by rw [rho_setLp,rho_leaf])
 have main:(x=.normal∨x=.ret)∧resP hf.results (rho t) s P:=by
  cases x with
  | normal=>exact ⟨.inl rfl,h1⟩
  | ret=>exact ⟨.inr rfl,h1⟩
  | exit i=>exact h1.elim
 obtain ⟨hx,v,hv,hr⟩:=main
 refine ⟨v,s,hv,n,fun m hm K=>?_⟩
 show iteB (Nat.blt f yBase) (Option.rec (motive:=fun _=>R) (.fail 94) (callF (run F m) args st K) (F f)) _=_
 rw [hb,iteB_true,h0]
 show setL hf.args args .leaf (fun tm=>retK hf.results K (run F m hf.body tm st))=_
 rw [setL_eq',← runC_F,h2 m hm]
 rcases hx with rfl | rfl
 ·exact hr K t rfl
 ·exact hr K t rfl
instance:Inhabited S:=⟨.nils⟩
structure Cs (s:St) (id off m:Nat) (es:List S):Prop where
 wf:WfS s
 own:Own s id m
 fit:off+es.length≤m
 lt:id<s.next
 rd:∀ i,i<es.length→Ev.rd s id (off+i)=some (el es i)
theorem Cs.fr (h:Cs s id off m es) (k:Fr s t):Cs t id off m es:=⟨k.wf,h.own.fr k,h.fit,Nat.lt_of_lt_of_le h.lt k.next,fun i hi=>k.rd (h.rd i hi)⟩
theorem Cs.set (h:Cs s id off m es) {i:Nat} (hi:i<es.length) (x:S):Cs (wr s id (off+i) [x]) id off m (es.set i x):=by
 have hf:=h.fit
 have hk:=kp_wr (off:=off+i) (l:=[x]) h.wf h.lt
 refine ⟨hk.wf,h.own.wr,by simpa using hf,Nat.lt_of_lt_of_le h.lt hk.next,fun k hk=>?_⟩
 simp only [List.length_set] at hk
 rw [rd_wr h.own (by simp;omega),el_set _ hi]
 by_cases he:k=i
 ·subst he
  rw [if_pos ⟨rfl,Nat.le_refl _,by simp⟩,if_pos rfl];simp
 ·rw [if_neg (by simp;omega),if_neg he];exact h.rd k hk
theorem Cs.kp (h:Cs s id off m es) {i:Nat} (x:S):Kp (some id) s (wr s id (off+i) [x]):=kp_wr h.wf h.lt
theorem Cs.d1 (h:Cs s id off m es) {i:Nat} (hi:i<es.length) (x:S) (al lm sm hv:Nat) (ll:List LL) (ss:List (Nat×Nat)) (n0 bit pre:Nat) (K:V→Mk→St→R) (hh:okS ⟨al,lm,sm,hv,[],ll,ss⟩ n0 pre id=true) :
  dS n0 ⟨al,lm,sm,hv,[],ll,ss⟩ bit pre s 1 (.sc (.ptr id (off+i))) (.sc x) K=K undefV ⟨al,lm,sm ||| bit,hv,[],ll,(bit,id) :: ss⟩ (wr s id (off+i) [x]):=dS_ok h.own (by have:=h.fit;omega) x K hh
theorem Cs.sw (h:Cs s id off m es) {i j:Nat} (hi:i<es.length) (hj:j<es.length):Cs (wr (wr s id (off+i) [el es j]) id (off+j) [el es i]) id off m (sw es i j):=(h.set hi _).set (by simpa using hj) _
theorem Cs.kp2 (h:Cs s id off m es) {i j:Nat} (hi:i<es.length) (x y:S):Kp (some id) s (wr (wr s id (off+i) [x]) id (off+j) [y]):=(h.kp x).trans ((h.set hi x).kp y)
structure Sm (o:Nat) (s t:St):Prop where
 next:s.next≤t.next
 old:∀ id b,id≠o→s.heap.get id=some b→t.heap.get id=some b
theorem Sm.refl (o:Nat) (s:St):Sm o s s:=⟨Nat.le_refl _,fun _ _ _ h=>h⟩
theorem Sm.kp {o:Nat} (h:Sm o s t) (k:Kp (some o) t u):Sm o s u:=⟨Nat.le_trans h.next k.next,fun i c hi hc=>k.old i c (fun he=>hi (Option.some.inj he).symm) (h.old i c hi hc)⟩
theorem Sm.low {o n:Nat} (h:Sm o s t):Sm o s (setLow t n):=by cases t;exact ⟨h.next,h.old⟩
structure Cmp (F:Nat→Option HF) (s0:St) (o:Nat) (v:S) (lt:S→S→Bool) (es0:List S):Prop where
 wf0:WfS s0
 ord:Ltr lt
 dis:Dis lt es0
 call:∃ f l,v=capsOf f l∧Nat.blt f yBase=true∧∀ s,WfS s→Sm o s0 s→∀ x y,x∈es0→y∈es0→Ca (cF F) f (.sc x :: .sc y :: l.map V.sc) s (fun r s'=>Fr s s'∧∃ n:Int,r=iv n∧(n<0↔lt x y=true))
theorem callV_capN (f:Nat) (hf:Nat.blt f yBase=true) (l:List S) (x y:V) (c:CallK) (r:Ev) (K:V→St→R):h_op4_callV (.c (.sc (capsOf f l))) [.c x,.c y] c r s K=c f (x :: y :: l.map V.sc) s K:=by
 show (match uncap (capsOf f l) with | some (f,l)=>evL r [.c x,.c y] fun a=>seqL (a ++ l) fun a=>c f a s K | none=>.fail 51)=_
 rw [uncap_caps f hf l]
 show seqL ([x,y] ++ l.map V.sc) (fun a=>c f a s K)=_
 rw [seqL_eq];rfl
theorem Cmp.dc (H:Cmp F s0 id v lt es0) (hw:WfS s) (sm:Sm id s0 s) {x y:S} (hx:x∈es0) (hy:y∈es0) {al lm sk hv:Nat}{ll:List LL}{ss:List (Nat×Nat)}{bit pre:Nat}{r:Ev}{P:List V→St→Prop}{G:CallK→(List V→St→R)→V→Mk→St→R}
  (h1:sub' al pre=true) (h2:sub' sk pre=true) (k:∀ (n:Int) s',Fr s s'→(n<0↔lt x y=true)→Rg (cF F) (fun c K=>G c K (iv n) ⟨al ||| bit,lm,sk,hv ||| bit,[],ll,ss⟩ s') P) :
  Rg (cF F) (fun c K=>Ev.dw3 ⟨al,lm,sk,hv,[],ll,ss⟩ bit pre s (fun s q=>h_op4_callV (.c (.sc v)) [(.c (.sc x)),(.c (.sc y))] c r s q) (G c K)) P:=by
 obtain ⟨f,l,rfl,hf,hc⟩:=H.call
 have e:∀ (c:CallK) (K:List V→St→R),Ev.dw3 ⟨al,lm,sk,hv,[],ll,ss⟩ bit pre s (fun s q=>h_op4_callV (.c (.sc (capsOf f l))) [(.c (.sc x)),(.c (.sc y))] c r s q) (G c K)=Ev.dw3 ⟨al,lm,sk,hv,[],ll,ss⟩ bit pre s (fun s q=>c f (.sc x :: .sc y :: l.map V.sc) s q) (G c K):=fun c K=>by
  congr 1;funext s q;exact callV_capN f hf l _ _ c r q
 rw [Rg.congr e]
 refine Rg.dc (fun r=>∃ n:Int,r=iv n∧(n<0↔lt x y=true)) hw h1 h2 (hc _ (wf_setLow (h:=hw)) sm.low x y hx hy) fun r s' h3 ⟨n,h4,h5⟩=>?_
 subst h4;exact k n s' h3 h5
structure On (s0:St) (id off m:Nat) (v:S) (lt:S→S→Bool) (es0:List S) (s:St) (es:List S):Prop where
 cs:Cs s id off m es
 perm:es.Perm es0
 sm:Sm id s0 s
 len:es.length<4611686018427387904
theorem On.fr (h:On s0 id off m v lt es0 s es) (k:Fr s t):On s0 id off m v lt es0 t es:=⟨h.cs.fr k,h.perm,h.sm.kp (k.kp _),h.len⟩
theorem On.mem (h:On s0 id off m v lt es0 s es) {i:Nat} (hi:i<es.length):el es i∈es0:=h.perm.mem_iff.1 (el_mem hi)
theorem On.sw (h:On s0 id off m v lt es0 s es) {i j:Nat} (hi:i<es.length) (hj:j<es.length):On s0 id off m v lt es0 (wr (wr s id (off+i) [el es j]) id (off+j) [el es i]) (sw es i j) :=
 ⟨h.cs.sw hi hj,(sw_perm hi hj).trans h.perm,h.sm.kp (h.cs.kp2 hi _ _),by rw [sw_len];exact h.len⟩
theorem On.dis (h:On s0 id off m v lt es0 s es) (H:Cmp F s0 id v lt es0):Dis lt es:=H.dis.perm h.perm
def To (s0:St) (id off m:Nat) (v:S) (lt:S→S→Bool) (es0:List S) (s:St) (es:List S) (a b:Nat) (s':St) (es':List S):Prop:=On s0 id off m v lt es0 s' es'∧Kp (some id) s s'∧Mv es es' a b
theorem To.refl (h:On s0 id off m v lt es0 s es) (a b:Nat):To s0 id off m v lt es0 s es a b s es:=⟨h,(Fr.refl h.cs.wf).kp _,.refl _ _ _⟩
theorem To.fr (h:To s0 id off m v lt es0 s es a b t es') (k:Fr t u):To s0 id off m v lt es0 s es a b u es':=⟨h.1.fr k,h.2.1.trans (k.kp _),h.2.2⟩
theorem To.sub {c d:Nat} (h:To s0 id off m v lt es0 s es a b t es') (h1:c≤a) (h2:b≤d):To s0 id off m v lt es0 s es c d t es':=⟨h.1,h.2.1,h.2.2.sub h1 h2⟩
theorem To.then {es2:List S} (h:To s0 id off m v lt es0 s es a b t es') (k:To s0 id off m v lt es0 t es' a b u es2):To s0 id off m v lt es0 s es a b u es2:=⟨k.1,h.2.1.trans k.2.1,h.2.2.trans k.2.2⟩
theorem To.len (h:To s0 id off m v lt es0 s es a b t es'):es'.length=es.length:=h.2.2.len
theorem To.sw (h:To s0 id off m v lt es0 s es a b t es') {i j:Nat} (hb:b≤es.length) (h1:a≤i) (h2:i<b) (h3:a≤j) (h4:j<b) :
  To s0 id off m v lt es0 s es a b (wr (wr t id (off+i) [el es' j]) id (off+j) [el es' i]) (sw es' i j):=by
 have hl:=h.len
 have hi:i<es'.length:=by omega
 have hj:j<es'.length:=by omega
 exact ⟨h.1.sw hi hj,h.2.1.trans (h.1.cs.kp2 hi _ _),h.2.2.trans (.sw hi hj h1 h2 h3 h4)⟩
theorem Kp.more {id p:Nat} (h:Kp (some id) s t) (k:Kp (some p) t u) (hp:s.next≤p) (hw:WfS s):Kp (some id) s u :=
 ⟨Nat.le_trans h.next k.next,fun i b hi hb=>k.old i b (fun he=>by cases he;rw [hw _ hp] at hb;cases hb) (h.old i b hi hb),fun a ha ho=>by
  have h1:=h.low a ha ho
  have h2:=k.low a (Nat.le_trans ha h.next) (fun i hi=>by cases hi;omega)
  omega,Nat.le_trans k.low' h.low',k.wf⟩
theorem On.keep {p:Nat} (H:Cmp F s0 id v lt es0) (h:On s0 id off m v lt es0 t es) (k:Kp (some p) t u) (hp:s0.next≤p) (hne:p≠id):On s0 id off m v lt es0 u es :=
 ⟨⟨k.wf,h.cs.own.kp k (fun he=>hne (Option.some.inj he)),h.cs.fit,Nat.lt_of_lt_of_le h.cs.lt k.next,fun i hi=>k.rd (fun he=>hne (Option.some.inj he)) (h.cs.rd i hi)⟩,h.perm,
  ⟨Nat.le_trans h.sm.next k.next,fun i b hi hb=>k.old i b (fun he=>by cases he;rw [H.wf0 _ hp] at hb;cases hb) (h.sm.old i b hi hb)⟩,h.len⟩
theorem To.keep {p:Nat} (H:Cmp F s0 id v lt es0) (h0:On s0 id off m v lt es0 s es) (h:To s0 id off m v lt es0 s es a b t es') (k:Kp (some p) t u) (hp:s.next≤p):To s0 id off m v lt es0 s es a b u es' :=
 ⟨h.1.keep H k (Nat.le_trans h0.sm.next hp) (fun he=>by have:=h0.cs.lt;omega),h.2.1.more k hp h0.cs.wf,h.2.2⟩
end
section
variable {F:Nat→Option HF}{z0:PdN}{s t u s0:St}{id off m a b:Nat}{cap:Option Nat}{es es' es0:List S}{v:S}{lt:S→S→Bool}
theorem ins_ok (hz:PdAt F z0) (H:Cmp F s0 id v lt es0) (h0:On s0 id off m v lt es0 s es) (hab:a≤b) (hb:b≤es.length) :
  Ca (cF F) z0.ins [.sc (.slice id off es.length cap 1),iv a,iv b,.sc v] s (fun _ s'=>∃ es',To s0 id off m v lt es0 s es a b s' es'∧Srt lt es' a b):=by
 have hlen:=h0.len
 refine Ca.ofU (hf:=hIns z0) hz.ins.1 hz.ins.2 [q0,q1,q2,q3] [] rfl rfl rfl fun Q hQ=>?_
 refine Ru.rs fun P hP=>?_
 simp -implicitDefEqProofs (disch:=first|decide|omega)
 refine Rg.ret (hP _ _ ?_)
 clear hP P
 refine Ru.at (fun ρ=>ρ q0=.sc (.slice id off es.length cap 1)∧ρ q1=iv a∧ρ q2=iv b∧ρ q3=.sc v∧ρ q8=iv (a+1:Nat)) ⟨rfl,rfl,rfl,rfl,rfl⟩ fun ρ0 hE=>?_
 obtain ⟨e0,e1,e2,e3,e8⟩:=hE
 refine Ru.block (Ru.lp [q0,q1,q2,q3] (fun i:Nat=>b - i) (fun i ρ s'=>ρ q8=iv i∧a+1≤i∧(i≤b∨i=a+1)∧∃ es',To s0 id off m v lt es0 s es a b s' es'∧Srt lt es' a i)
  ⟨a+1,e8,Nat.le_refl _,.inr rfl,es,To.refl h0 a b,fun i j h1 h2 h3=>by omega⟩ fun i ρ s1 hk hI=>?_)
 clear e8
 obtain ⟨e8,hi1,hi2,es1,hT1,hS1⟩:=hI
 have hl1:=hT1.len
 refine Ru.seq (Ru.rs fun P hP=>?_)
 simp -implicitDefEqProofs (disch:=first|decide|omega) [hk.e,e2,e8]
 refine Rg.ret (hP _ _ ?_)
 clear hP P
 refine Ru.cond rfl (fun h=>Ru.skip ?_) fun h=>Ru.exit ?_
 rotate_left
 ·simp at h
  simp only [Then,Out,if_true]
  exact (hQ _ _ (.nil0 ⟨es1,hT1,fun i j h1 h2 h3=>hS1 i j h1 h2 (by omega)⟩)).2
 simp at h
 simp only [Then,Out]
 have hib:i<b:=by omega
 clear hi2 h
 refine Ru.seq (Ru.block (Ru.rs fun P hP=>?_))
 simp -implicitDefEqProofs (disch:=first|decide|omega) [e8]
 refine Rg.ret (hP _ _ ?_)
 clear hP P
 refine Ru.at (fun ρ'=>Keep [q0,q1,q2,q3] ρ' ρ0∧ρ' q8=iv i∧ρ' q9=iv i) ⟨by repeat first | exact hk | refine Keep.up (by rfl) ?_,e8,rfl⟩ fun ρ1 hE=>?_
 obtain ⟨hk1,e8',e9⟩:=hE
 refine Ru.block (Ru.lp [q0,q1,q2,q3,q8] (fun j:Nat=>j) (fun j ρ s'=>ρ q9=iv j∧a≤j∧j≤i∧∃ es',To s0 id off m v lt es0 s es a b s' es'∧Ins lt es' a i j)
  ⟨i,e9,by omega,Nat.le_refl _,es1,hT1,Ins.start hS1⟩ fun j ρ' s2 hk2 hI=>?_)
 clear e9
 obtain ⟨e9,hj1,hj2,es2,hT2,hS2⟩:=hI
 have hl2:=hT2.len
 have hk3:Keep [q0,q1,q2,q3] ρ' ρ0:=Keep.via (by rfl) hk2 hk1
 refine Ru.seq (Ru.ds fun P hP=>?_)
 refine Rg.imp (P:=fun l t=>∃ c:Bool,l=[bl c]∧Fr s2 t∧(c=true↔a<j∧lt (el es2 j) (el es2 (j - 1))=true)) (Rg.hide fun P hP=>?_) fun l t h=>hP _ _ ?_
 ·by_cases haj:a<j
  ·obtain ⟨k,rfl⟩:∃ k,j=k+1:=⟨j - 1,by omega⟩
   have e:((k+1:Nat):Int) - 1=(k:Nat):=by omega
   have r1:=hT2.1.cs.rd (k+1) (by omega)
   have r2:=hT2.1.cs.rd k (by omega)
   simp -implicitDefEqProofs (disch:=first|decide|omega) [hk3.e,e0,e1,e3,e9,e,r1,r2]
   refine H.dc hT2.1.cs.wf hT2.1.sm (hT2.1.mem (by omega)) (hT2.1.mem (by omega)) (by decide) (by decide) fun n s' hf hn=>?_
   simp -implicitDefEqProofs (disch:=first|decide|omega)
   refine Rg.ret (hP _ _ ⟨_,rfl,hf, ?_⟩)
   simp
   rw [hn]
   simp
   exact fun _=>haj
  ·simp -implicitDefEqProofs (disch:=first|decide|omega) [hk3.e,e0,e1,e3,e9]
   refine Rg.ret (hP _ _ ⟨_,rfl,.refl hT2.1.cs.wf, ?_⟩)
   simp;omega
 obtain ⟨c,rfl,hf,hc⟩:=h
 clear hP P
 have hT3:=hT2.fr hf
 refine Ru.cond rfl (fun h=>Ru.skip ?_) fun h=>Ru.exit ?_
 rotate_left
 ·
  subst h
  simp only [Then,Out,if_true]
  have hn:¬ (a<j∧lt (el es2 j) (el es2 (j - 1))=true):=fun hh=>by have:=hc.2 hh;cases this
  refine Ru.r1 fun P hP=>?_
  simp -implicitDefEqProofs (disch:=first|decide|omega) [hk2.e,e8']
  refine Rg.ret (hP _ _ ⟨by repeat first | exact hk3 | refine Keep.up (by rfl) ?_,i+1,by omega,rfl,by omega,.inl (by omega),es2,hT3,hS2.done H.ord hj2 ?_⟩)
  by_cases haj:a<j
  ·refine .inr ⟨by omega,by omega, ?_⟩
   refine (hT3.1.dis H).not (by omega) (by omega) (by omega) ?_
   cases hx:lt (el es2 j) (el es2 (j - 1)) with
   | false=>rfl
   | true=>exact absurd ⟨haj,hx⟩ hn
  ·exact .inl (by omega)
 subst h
 simp only [Then,Out]
 obtain ⟨haj,hlt⟩:=hc.1 rfl
 obtain ⟨k,rfl⟩:∃ k,j=k+1:=⟨j - 1,by omega⟩
 have e:((k+1:Nat):Int) - 1=(k:Nat):=by omega
 have hcs:=hT3.1.cs
 have r1:=hcs.rd (k+1) (by omega)
 have r2:=hcs.rd k (by omega)
 refine Ru.seq (Ru.block (Ru.d1 fun P hP=>?_))
 have d1:=hcs.d1 (i:=k+1) (by omega) (el es2 k)
 have d2:=(hcs.set (i:=k+1) (by omega) (el es2 k)).d1 (i:=k) (by simp;omega) (el es2 (k+1))
 simp -implicitDefEqProofs (disch:=first|decide|omega | (apply okS_t;decide;(simp (decide:=true) <;> omega))) [hk3.e,e0,e9,e,r1,r2,d1,d2]
 refine Rg.ret (hP _ _ ?_)
 clear hP P
 simp only [Then,Out]
 refine Ru.r1 fun P hP=>?_
 simp -implicitDefEqProofs (disch:=first|decide|omega) [e9,e]
 exact Rg.ret (hP _ _ ⟨by repeat first | exact hk2 | refine Keep.up (by rfl) ?_,k,by omega,rfl,by omega,by omega,_,hT3.sw (i:=k+1) (j:=k) hb (by omega) (by omega) (by omega) (by omega),hS2.step (by omega) hj2 (by omega) hlt⟩)
end
section
theorem Ru.mid {C:Nat→CallK}{a b:HC}{ρ:Ev}{st:St}{Q:X→Ev→St→Prop} (M:Ev→St→Prop) (h1:Ru C a ρ st (Then M fun _ _ _=>False)) (h2:∀ ρ s,M ρ s→Ru C b ρ s Q):Ru C (.seq a b) ρ st Q :=
 Ru.seq (h1.imp fun x ρ s h=>by cases x with | normal=>exact h2 ρ s h | exit i=>exact h.elim | ret=>exact h.elim)
variable {F:Nat→Option HF}{z0:PdN}{s t u s0:St}{id off m a b:Nat}{cap:Option Nat}{es es' es0:List S}{v:S}{lt:S→S→Bool}
theorem sift_ok (hz:PdAt F z0) (H:Cmp F s0 id v lt es0) (h0:On s0 id off m v lt es0 s es) {lo hi f:Nat} (hl:f+hi≤es.length) (hlo:lo≤es.length) (hh:Heap lt es f (lo+1) hi) :
  Ca (cF F) z0.sift [.sc (.slice id off es.length cap 1),iv lo,iv hi,iv f,.sc v] s (fun _ s'=>∃ es',To s0 id off m v lt es0 s es (f+lo) (f+hi) s' es'∧Heap lt es' f lo hi):=by
 have hlen:=h0.len
 refine Ca.ofU (hf:=hSift z0) hz.sift.1 hz.sift.2 [q0,q1,q2,q3,q4] [] rfl rfl rfl fun Q hQ=>?_
 refine Ru.rs fun P hP=>Rg.ret (hP _ _ ?_)
 clear hP P
 refine Ru.at (fun ρ=>ρ q0=.sc (.slice id off es.length cap 1)∧ρ q2=iv hi∧ρ q3=iv f∧ρ q4=.sc v∧ρ q10=iv lo) ⟨rfl,rfl,rfl,rfl,rfl⟩ fun ρ0 hE=>?_
 obtain ⟨e0,e2,e3,e4,e10⟩:=hE
 refine Ru.block (Ru.lp [q0,q2,q3,q4] (fun r:Nat=>hi - r) (fun r ρ s'=>ρ q10=iv r∧lo≤r∧(r=lo∨r<hi)∧∃ es',To s0 id off m v lt es0 s es (f+lo) (f+hi) s' es'∧Sift lt es' f lo hi r)
  ⟨lo,e10,Nat.le_refl _,.inl rfl,es,To.refl h0 _ _,Sift.start hh⟩ fun r ρ s1 hk hI=>?_)
 clear e10
 obtain ⟨e10,hr1,hr2,es1,hT1,hS1⟩:=hI
 have hl1:=hT1.len
 refine Ru.block (Ru.rs fun P hP=>?_)
 simp -implicitDefEqProofs (disch:=first|decide|omega) [e10]
 refine Rg.ret (hP _ _ ?_)
 clear hP P
 refine Ru.at (fun ρ'=>Keep [q0,q2,q3,q4] ρ' ρ0∧ρ' q10=iv r∧ρ' q11=iv (2 * r+1:Nat)) ⟨by repeat first | exact hk | refine Keep.up (by rfl) ?_,e10,by simp [Int.add_comm]⟩ fun ρ1 hE=>?_
 clear hk e10 ρ
 obtain ⟨hk,e10,e11⟩:=hE
 refine Ru.seq (Ru.rs fun P hP=>?_)
 simp -implicitDefEqProofs (disch:=first|decide|omega) [hk.e,e2,e11]
 refine Rg.ret (hP _ _ ?_)
 clear hP P
 refine Ru.cond rfl (fun h=>Ru.exit ?_) fun h=>Ru.skip ?_
 ·
  simp at h
  simp only [Then,Out]
  refine (hQ _ _ (.nil0 ⟨es1,hT1,hS1.done fun c hc hch=>by omega⟩)).2
 simp at h
 simp only [Then]
 have hch:2 * r+1<hi:=by omega
 clear h hr2
 obtain ⟨D,hD⟩:∃ D,D=2 * r+1:=⟨_,rfl⟩
 rw [← hD] at e11
 have irr:∀ x,lt x x=false:=fun x=>by
  cases hx:lt x x with
  | false=>rfl
  | true=>have:=H.ord.asym _ _ hx;rw [hx] at this;cases this
 refine Ru.mid (fun ρ' t=>Keep [q0,q2,q3,q4] ρ' ρ0∧ρ' q10=iv r∧Fr s1 t∧∃ c:Nat,ρ' q11=iv c∧(c=2 * r+1∨c=2 * r+2)∧c<hi∧∀ d,(d=2 * r+1∨d=2 * r+2)→d<hi→lt (el es1 (f+c)) (el es1 (f+d))=false) ?_ fun ρ' t hM=>?_
 ·refine Ru.ds fun P hP=>?_
  refine Rg.imp (P:=fun l t=>∃ c:Bool,l=[bl c]∧Fr s1 t∧(c=true↔D+1<hi∧lt (el es1 (f+D)) (el es1 (f+(D+1)))=true)) (Rg.hide fun P2 hP2=>?_) fun l t h=>hP _ _ ?_
  ·by_cases hc2:D+1<hi
   ·obtain ⟨A,hA⟩:∃ A,A=f+D:=⟨_,rfl⟩
    have e:((f:Nat):Int)+(D:Int)=(A:Int):=by omega
    obtain ⟨B,hB⟩:∃ B,B=f+(D+1):=⟨_,rfl⟩
    have e':(A:Int)+1=(B:Int):=by omega
    have r1:=hT1.1.cs.rd A (by omega)
    have r2:=hT1.1.cs.rd B (by omega)
    simp -implicitDefEqProofs (disch:=first|decide|omega) [hk.e,e0,e2,e3,e4,e11,e,e',r1,r2]
    refine H.dc hT1.1.cs.wf hT1.1.sm (hT1.1.mem (by omega)) (hT1.1.mem (by omega)) (by decide) (by decide) fun n s' hf hn=>?_
    simp -implicitDefEqProofs (disch:=first|decide|omega)
    refine Rg.ret (hP2 _ _ ⟨_,rfl,hf, ?_⟩)
    simp
    rw [hn,hA,hB]
    exact ⟨fun h=>⟨hc2,h⟩,fun h=>h.2⟩
   ·simp -implicitDefEqProofs (disch:=first|decide|omega) [hk.e,e0,e2,e3,e4,e11]
    refine Rg.ret (hP2 _ _ ⟨_,rfl,.refl hT1.1.cs.wf, ?_⟩)
    simp;omega
  obtain ⟨c,rfl,hf,hc⟩:=h
  clear hP P
  refine Ru.cond rfl (fun h=>?_) fun h=>Ru.skip ?_
  ·subst h
   obtain ⟨h1,h2⟩:=hc.1 rfl
   refine Ru.r1 fun P hP=>?_
   simp -implicitDefEqProofs (disch:=first|decide|omega) [e11]
   refine Rg.ret (hP _ _ ⟨by repeat first | exact hk | refine Keep.up (by rfl) ?_,by simp (disch:=first|decide|omega) [e10],hf,D+1,rfl,.inr (by omega),by omega,fun d hd hdh=>?_⟩)
   by_cases hdD:d=D
   ·subst hdD;exact H.ord.asym _ _ h2
   ·obtain rfl:d=D+1:=by omega
    exact irr _
  ·subst h
   have hn:¬ (D+1<hi∧lt (el es1 (f+D)) (el es1 (f+(D+1)))=true):=fun hh=>by have:=hc.2 hh;cases this
   refine ⟨by repeat first | exact hk | refine Keep.up (by rfl) ?_,by simp (disch:=first|decide|omega) [e10],hf,D,by simp (disch:=first|decide|omega) [e11],.inl hD,by omega,fun d hd hdh=>?_⟩
   by_cases hdD:d=D
   ·subst hdD;exact irr _
   ·obtain rfl:d=D+1:=by omega
    cases hx:lt (el es1 (f+D)) (el es1 (f+(D+1))) with
    | false=>rfl
    | true=>exact absurd ⟨hdh,hx⟩ hn
 obtain ⟨hk',e10',hf,c,e11',hc,hchi,hsib⟩:=hM
 have hT2:=hT1.fr hf
 have e:((f:Nat):Int)+(c:Int)=((f+c:Nat):Int):=by omega
 have e':((f:Nat):Int)+(r:Int)=((f+r:Nat):Int):=by omega
 have r1:=hT2.1.cs.rd (f+c) (by omega)
 have r2:=hT2.1.cs.rd (f+r) (by omega)
 refine Ru.seq (Ru.ds fun P hP=>?_)
 refine Rg.imp (P:=fun l t'=>∃ c':Bool,l=[bl c']∧Fr t t'∧(c'=false↔lt (el es1 (f+r)) (el es1 (f+c))=true)) (Rg.hide fun P2 hP2=>?_) fun l t' h=>hP _ _ ?_
 ·generalize hA:f+c=A at *
  generalize hB:f+r=B at *
  simp -implicitDefEqProofs (disch:=first|decide|omega) [hk'.e,e0,e3,e4,e10',e11',e,e',r1,r2]
  refine H.dc hT2.1.cs.wf hT2.1.sm (hT2.1.mem (by omega)) (hT2.1.mem (by omega)) (by decide) (by decide) fun n s' hf hn=>?_
  simp -implicitDefEqProofs (disch:=first|decide|omega)
  refine Rg.ret (hP2 _ _ ⟨_,rfl,hf, ?_⟩)
  simp
  exact hn
 obtain ⟨c',rfl,hf',hc'⟩:=h
 clear hP P
 have hT3:=hT2.fr hf'
 refine Ru.cond rfl (fun h=>?_) fun h=>Ru.skip ?_
 ·
  subst h
  refine Ru.ret (hQ _ _ (.nil0 ⟨es1,hT3,hS1.done fun d hd hdh=>?_⟩)).1
  have hrc:lt (el es1 (f+r)) (el es1 (f+c))=false:=by
   cases hx:lt (el es1 (f+r)) (el es1 (f+c)) with
   | false=>rfl
   | true=>have:=hc'.2 hx;cases this
  cases hx:lt (el es1 (f+r)) (el es1 (f+d)) with
  | false=>rfl
  | true =>
   by_cases hcd:c=d
   ·subst hcd;rw [hx] at hrc;cases hrc
   ·have h1:lt (el es1 (f+c)) (el es1 (f+r))=true:=(hT3.1.dis H).not (by omega) (by omega) (by omega) hrc
    have h2:=H.ord.trans _ _ _ h1 hx
    rw [hsib d hd hdh] at h2;cases h2
 subst h
 have hlt:=hc'.1 rfl
 simp only [Then]
 have hcs:=hT3.1.cs
 have r1:=hcs.rd (f+c) (by omega)
 have r2:=hcs.rd (f+r) (by omega)
 refine Ru.ds fun P hP=>?_
 have d1:=hcs.d1 (i:=f+r) (by omega) (el es1 (f+c))
 have d2:=(hcs.set (i:=f+r) (by omega) (el es1 (f+c))).d1 (i:=f+c) (by simp;omega) (el es1 (f+r))
 have hst:=hS1.step H.ord (by omega) hc hchi hlt hsib hr1
 have hTs:=hT3.sw (i:=f+r) (j:=f+c) (by omega) (by omega) (by omega) (by omega) (by omega)
 generalize hA:f+c=A at *
 generalize hB:f+r=B at *
 simp -implicitDefEqProofs (disch:=first|decide|omega | (apply okS_t;decide;(simp (decide:=true) <;> omega))) [hk'.e,e0,e3,e10',e11',e,e',r1,r2,d1,d2]
 refine Rg.ret (hP _ _ ?_)
 clear hP P
 refine Ru.r1 fun P hP=>?_
 refine Rg.ret (hP _ _ ⟨by repeat first | exact hk' | refine Keep.up (by rfl) ?_,c,by omega,by simp (disch:=first|decide|omega) [e11'],by omega,.inr hchi,_,hTs,hst⟩)
end
section
@[simp] theorem iquo0 (a b:Nat) (K:V→R) (h:0<b) (h':a<9223372036854775808):binK .quo (iv a) (iv b) K=K (iv ((a / b:Nat):Int)):=by
 have e:intEq (b:Int) 0=false:=by rw [intEq_eq];simp;omega
 have hd:a / b≤a:=Nat.div_le_self a b
 have h1:binK .quo (iv a) (iv b) K=quoK .i64 (a:Int) (b:Int) K:=rfl
 rw [h1]
 unfold quoK
 rw [e,iteB_false,intK_eq,show Int.tdiv (a:Int) (b:Int)=((a / b:Nat):Int) from rfl,wrap_i64 (by omega)];rfl
variable {F:Nat→Option HF}{z0:PdN}{s t u s0:St}{id off m a b:Nat}{cap:Option Nat}{es es' es0:List S}{v:S}{lt:S→S→Bool}
theorem Heap.take {n k:Nat} (ho:Ltr lt) (hd:Dis lt es) (hl:a+n≤es.length) (hk:k<n) (h:Heap lt es a 0 (k+1)) (hs:Srt lt es (a+(k+1)) (a+n)) (hc:∀ p q,p<k+1→k+1≤q→q<n→lt (el es (a+p)) (el es (a+q))=true) :
  Heap lt (sw es a (a+k)) a 1 k∧Srt lt (sw es a (a+k)) (a+k) (a+n)∧∀ p q,p<k→k≤q→q<n→lt (el (sw es a (a+k)) (a+p)) (el (sw es a (a+k)) (a+q))=true:=by
 have e:=fun j=>el_sw (es:=es) (i:=a) (j:=a+k) (by omega) (by omega) j
 have hroot:=h.root ho hd (by omega)
 refine ⟨fun i hi c hc1 hc2=>?_,fun i j h1 h2 h3=>?_,fun p q h1 h2 h3=>?_⟩
 ·rw [e,e,if_neg (by omega),if_neg (by omega),if_neg (by omega),if_neg (by omega)]
  exact h i (Nat.zero_le _) c hc1 (by omega)
 ·rw [e,e,if_neg (show ¬ j=a+k by omega),if_neg (show ¬ j=a by omega)]
  by_cases hik:i=a+k
  ·rw [if_pos hik]
   have:=hc 0 (j - a) (by omega) (by omega) (by omega)
   rwa [show a+(j - a)=j by omega] at this
  ·rw [if_neg hik,if_neg (by omega)]
   exact hs i j (by omega) h2 h3
 ·by_cases hqk:q=k
  ·subst hqk
   rw [e (a+q),if_pos rfl,e,if_neg (by omega)]
   by_cases hp:p=0
   ·subst hp
    rw [if_pos (Nat.add_zero a)]
    exact hd.not (by omega) (by omega) (by omega) (hroot q (by omega))
   ·rw [if_neg (by omega)]
    exact hd.not (by omega) (by omega) (by omega) (hroot p (by omega))
  ·rw [e,e,if_neg (show ¬ a+q=a+k by omega),if_neg (show ¬ a+q=a by omega),if_neg (show ¬ a+p=a+k by omega)]
   by_cases hp:p=0
   ·subst hp
    rw [if_pos (Nat.add_zero a)]
    exact hc k q (by omega) (by omega) h3
   ·rw [if_neg (by omega)]
    exact hc p q (by omega) (by omega) h3
theorem heap_ok (hz:PdAt F z0) (H:Cmp F s0 id v lt es0) (h0:On s0 id off m v lt es0 s es) (hab:a<b) (hb:b≤es.length) :
  Ca (cF F) z0.heap [.sc (.slice id off es.length cap 1),iv a,iv b,.sc v] s (fun _ s'=>∃ es',To s0 id off m v lt es0 s es a b s' es'∧Srt lt es' a b):=by
 have hlen:=h0.len
 obtain ⟨n,hn⟩:∃ n,n=b - a:=⟨_,rfl⟩
 have eb:((b:Nat):Int) - (a:Int)=(n:Int):=by omega
 refine Ca.ofU (hf:=hHeap z0) hz.heap.1 hz.heap.2 [q0,q1,q2,q3] [] rfl rfl rfl fun Q hQ=>?_
 refine Ru.rs fun P hP=>Rg.ret (hP _ _ ?_)
 clear hP P
 refine Ru.rs fun P hP=>Rg.ret (hP _ _ ?_)
 clear hP P
 refine Ru.rs fun P hP=>?_
 simp -implicitDefEqProofs (disch:=first|decide|omega) [eb]
 refine Rg.ret (hP _ _ ?_)
 clear hP P
 refine Ru.at (fun ρ=>ρ q0=.sc (.slice id off es.length cap 1)∧ρ q3=.sc v∧ρ q8=iv a∧ρ q9=iv 0∧ρ q10=iv n) ⟨rfl,rfl,rfl,rfl,rfl⟩ fun ρ0 hE=>?_
 obtain ⟨e0,e3,e8,e9,e10⟩:=hE
 refine Ru.mid (fun ρ' t=>Keep [q0,q3,q8,q9,q10] ρ' ρ0∧∃ es',To s0 id off m v lt es0 s es a b t es'∧Heap lt es' a 0 n) ?_ fun ρ' t hM=>?_
 ·obtain ⟨n1,hn1⟩:∃ n1,n1=n - 1:=⟨_,rfl⟩
  have e1:((n:Nat):Int) - 1=(n1:Int):=by omega
  have e2:∀ K:V→R,binK .quo (iv n1) (iv 2) K=K (iv ((n1 / 2:Nat):Int)):=fun K=>iquo0 n1 2 K (by omega) (by omega)
  obtain ⟨n2,hn2⟩:∃ n2,n2=n1 / 2:=⟨_,rfl⟩
  rw [← hn2] at e2
  refine Ru.rs fun P hP=>?_
  simp -implicitDefEqProofs (disch:=first|decide|omega) [e10,e1,e2]
  refine Rg.ret (hP _ _ ?_)
  clear hP P
  refine Ru.at (fun ρ'=>Keep [q0,q3,q8,q9,q10] ρ' ρ0∧ρ' q11=iv n2) ⟨Keep.up (by rfl) (Keep.refl _ _),rfl⟩ fun ρ1 hE=>?_
  obtain ⟨hk1,e11⟩:=hE
  refine Ru.block (Ru.lp [q0,q3,q8,q9,q10] (fun k:Nat=>k) (fun k ρ s'=>ρ q11=iv ((k:Int) - 1)∧k≤n∧∃ es',To s0 id off m v lt es0 s es a b s' es'∧Heap lt es' a k n)
   ⟨n2+1,by rw [e11];congr 2;omega,by omega,es,To.refl h0 _ _,fun i hi c hc hcn=>by omega⟩ fun k ρ s1 hk' hI=>?_)
  clear e11
  have hk:Keep [q0,q3,q8,q9,q10] ρ ρ0:=Keep.via (by rfl) hk' hk1
  obtain ⟨e11,hkn,es1,hT1,hH1⟩:=hI
  refine Ru.seq (Ru.rs fun P hP=>?_)
  simp -implicitDefEqProofs (disch:=first|decide|omega) [e11]
  refine Rg.ret (hP _ _ ?_)
  clear hP P
  refine Ru.cond rfl (fun h=>Ru.skip ?_) fun h=>Ru.exit ?_
  rotate_left
  ·simp at h
   simp only [Then,Out,if_true]
   have:k=0:=by omega
   subst this
   exact ⟨by repeat first | exact hk | refine Keep.up (by rfl) ?_,es1,hT1,hH1⟩
  simp at h
  simp only [Then,Out]
  obtain ⟨i,rfl⟩:∃ i,k=i+1:=⟨k - 1,by omega⟩
  have e:((i+1:Nat):Int) - 1=(i:Int):=by omega
  rw [e] at e11
  have hl1:=hT1.len
  refine Ru.seq (Ru.block (Ru.r1 fun P hP=>?_))
  have e0':ρ0 q0=.sc (.slice id off es1.length cap 1):=by rw [hl1];exact e0
  simp -implicitDefEqProofs (disch:=first|decide|omega) [hk.e,e0',e3,e8,e10,e11]
  refine Rg.call (sift_ok hz H hT1.1 (lo:=i) (hi:=n) (f:=a) (by omega) (by omega) hH1) fun r s2 h=>?_
  obtain ⟨es2,hT2,hH2⟩:=h
  refine Rg.ret (hP _ _ ?_)
  clear hP P
  simp only [Then,Out]
  refine Ru.r1 fun P hP=>?_
  simp -implicitDefEqProofs (disch:=first|decide|omega) [e11]
  refine Rg.ret (hP _ _ ⟨by repeat first | exact hk' | refine Keep.up (by rfl) ?_,i,by omega,rfl,by omega,es2,hT1.then (hT2.sub (by omega) (by omega)),hH2⟩)
 obtain ⟨hk,es1,hT1,hH1⟩:=hM
 refine Ru.rs fun P hP=>?_
 simp -implicitDefEqProofs (disch:=first|decide|omega) [hk.e,e10]
 refine Rg.ret (hP _ _ ?_)
 clear hP P
 refine Ru.at (fun ρ'=>Keep [q0,q3,q8,q9,q10] ρ' ρ0∧ρ' q12=iv ((n:Int) - 1)) ⟨Keep.up (by rfl) hk,rfl⟩ fun ρ1 hE=>?_
 clear hk
 obtain ⟨hk1,e12⟩:=hE
 refine Ru.block (Ru.lp [q0,q3,q8,q9,q10] (fun k:Nat=>k) (fun k ρ s'=>ρ q12=iv ((k:Int) - 1)∧k≤n∧∃ es',To s0 id off m v lt es0 s es a b s' es'∧Heap lt es' a 0 k∧Srt lt es' (a+k) (a+n)∧∀ p q,p<k→k≤q→q<n→lt (el es' (a+p)) (el es' (a+q))=true)
  ⟨n,e12,Nat.le_refl _,es1,hT1,hH1,fun i j h1 h2 h3=>by omega,fun p q h1 h2 h3=>by omega⟩ fun k ρ s1 hk' hI=>?_)
 clear e12 hT1 hH1
 have hk:Keep [q0,q3,q8,q9,q10] ρ ρ0:=Keep.via (by rfl) hk' hk1
 obtain ⟨e12,hkn,es2,hT2,hH2,hS2,hC2⟩:=hI
 have hl2:=hT2.len
 refine Ru.seq (Ru.rs fun P hP=>?_)
 simp -implicitDefEqProofs (disch:=first|decide|omega) [e12]
 refine Rg.ret (hP _ _ ?_)
 clear hP P
 refine Ru.cond rfl (fun h=>Ru.skip ?_) fun h=>Ru.exit ?_
 rotate_left
 ·simp at h
  simp only [Then,Out,if_true]
  have:k=0:=by omega
  subst this
  exact (hQ _ _ (.nil0 ⟨es2,hT2,fun i j h1 h2 h3=>hS2 i j (by omega) h2 (by omega)⟩)).2
 simp at h
 simp only [Then,Out]
 obtain ⟨i,rfl⟩:∃ i,k=i+1:=⟨k - 1,by omega⟩
 have e:((i+1:Nat):Int) - 1=(i:Int):=by omega
 rw [e] at e12
 obtain ⟨A,hA⟩:∃ A,A=a+i:=⟨_,rfl⟩
 have ea:((a:Nat):Int)+(i:Int)=(A:Int):=by omega
 obtain ⟨k1,k2,k3⟩:=hH2.take H.ord (hT2.1.dis H) (by omega) (by omega) hS2 hC2
 rw [← hA] at k1 k2 k3
 have hcs:=hT2.1.cs
 have r1:=hcs.rd A (by omega)
 have r2:=hcs.rd a (by omega)
 have d1:=hcs.d1 (i:=a) (by omega) (el es2 A)
 have d2:=(hcs.set (i:=a) (by omega) (el es2 A)).d1 (i:=A) (by simp;omega) (el es2 a)
 have hT3:=hT2.sw (i:=a) (j:=A) hb (by omega) (by omega) (by omega) (by omega)
 refine Ru.seq (Ru.block (Ru.ds fun P hP=>?_))
 simp -implicitDefEqProofs (disch:=first|decide|omega | (apply okS_t;decide;(simp (decide:=true) <;> omega))) [hk.e,e0,e8,e12,ea,r1,r2,d1,d2]
 refine Rg.ret (hP _ _ ?_)
 clear hP P
 generalize wr (wr s1 id (off+a) [el es2 A]) id (off+A) [el es2 a]=s3 at *
 have hl3:=hT3.len
 generalize hes3:sw es2 a A=es3 at *
 refine Ru.r1 fun P hP=>?_
 have e0':ρ0 q0=.sc (.slice id off es3.length cap 1):=by rw [hl3];exact e0
 have e9':ρ0 q9=iv ((0:Nat):Int):=e9
 have sk:=sift_ok hz H hT3.1 (cap:=cap) (lo:=0) (hi:=i) (f:=a) (by omega) (by omega) k1
 simp -implicitDefEqProofs (disch:=first|decide|omega) [hk.e,e0',e3,e8,e9,e12]
 refine Rg.call sk fun r s2 h=>?_
 obtain ⟨es4,hT4,hH4⟩:=h
 refine Rg.ret (hP _ _ ?_)
 clear hP P
 simp only [Then,Out]
 refine Ru.r1 fun P hP=>?_
 simp -implicitDefEqProofs (disch:=first|decide|omega) [e12]
 have hoff:=hT4.2.2.off
 refine Rg.ret (hP _ _ ⟨by repeat first | exact hk' | refine Keep.up (by rfl) ?_,i,by omega,rfl,by omega,es4,hT3.then (hT4.sub (by omega) (by omega)),hH4,by rw [← hA];exact k2.congr fun j h1 h2=>hoff j (.inr (by omega)),fun p q h1 h2 h3=>?_⟩)
 rw [hoff (a+q) (.inr (by omega))]
 refine hT4.2.2.rng (by omega) (fun x=>lt x (el es3 (a+q))=true) (fun j h4 h5=>?_) (a+p) (by omega) (by omega)
 have:=k3 (j - a) q (by omega) h2 h3
 rwa [show a+(j - a)=j by omega] at this
end
section
variable {F:Nat→Option HF}{z0:PdN}{s t u s0:St}{id off m a b:Nat}{cap:Option Nat}{es es' es0:List S}{v:S}{lt:S→S→Bool}
theorem Ltr.irr (h:Ltr lt) (x:S):lt x x=false:=by
 cases hx:lt x x with
 | false=>rfl
 | true=>have:=h.asym _ _ hx;rw [hx] at this;cases this
structure Pt (lt:S→S→Bool) (es:List S) (a b i j:Nat):Prop where
 lo:∀ p,a<p→p<i→lt (el es p) (el es a)=true
 hi:∀ p,j≤p→p<b→lt (el es p) (el es a)=false
theorem Pt.turn {i j:Nat} (h:Pt lt es a b i (j+1)) (hi:a<i) (hij:i≤j) (hj:j<b) (hb:b≤es.length) (h1:lt (el es i) (el es a)=false) (h2:lt (el es j) (el es a)=true):Pt lt (sw es i j) a b (i+1) j:=by
 have e:=fun k=>el_sw (es:=es) (i:=i) (j:=j) (by omega) (by omega) k
 refine ⟨fun p hp1 hp2=>?_,fun p hp1 hp2=>?_⟩
 ·rw [e,e a,if_neg (show ¬ a=j by omega),if_neg (show ¬ a=i by omega)]
  by_cases hpj:p=j
  ·rw [if_pos hpj]
   have:i=j:=by omega
   subst this;rw [h1] at h2;cases h2
  ·rw [if_neg hpj]
   by_cases hpi:p=i
   ·rw [if_pos hpi];exact h2
   ·rw [if_neg hpi];exact h.lo p hp1 (by omega)
 ·rw [e,e a,if_neg (show ¬ a=j by omega),if_neg (show ¬ a=i by omega)]
  by_cases hpj:p=j
  ·rw [if_pos hpj];exact h1
  ·rw [if_neg hpj,if_neg (by omega)];exact h.hi p (by omega) hp2
theorem Pt.done {j:Nat} (h:Pt lt es a b (j+1) (j+1)) (hj1:a≤j) (hj2:j<b) (hb:b≤es.length) :
  (∀ p,a≤p→p<j→lt (el (sw es j a) p) (el (sw es j a) j)=true)∧∀ p,j<p→p<b→lt (el (sw es j a) p) (el (sw es j a) j)=false:=by
 have e:=fun k=>el_sw (es:=es) (i:=j) (j:=a) (by omega) (by omega) k
 have ej:el (sw es j a) j=el es a:=by
  rw [e]
  by_cases hja:j=a
  ·subst hja;rw [if_pos rfl]
  ·rw [if_neg hja,if_pos rfl]
 rw [ej]
 refine ⟨fun p h1 h2=>?_,fun p h1 h2=>?_⟩
 ·rw [e]
  by_cases hpa:p=a
  ·rw [if_pos hpa]
   exact h.lo j (by omega) (by omega)
  ·rw [if_neg hpa,if_neg (by omega)];exact h.lo p (by omega) (by omega)
 ·rw [e,if_neg (by omega),if_neg (by omega)];exact h.hi p (by omega) h2
noncomputable def scanU (i0 i1:Nat) (qg:Pth):HC:=(.block i0 (.loop (.seq (.seq (.drw [qg] fun c r s K=>(fun z m=>binK .leq (r q12) (r q13) fun v0=>jnD true v0 (fun jj=>jj (r q4) m s) m s fun v1 m s=>jnD true v0 (fun jj=>jj (r q0) m s) m s fun v2 m s=>jnD true v0 (fun jj=>jj (r q12) m s) m s fun v3 m s=>jnD true v0 (fun jj=>ixs n1 v2 v3 fun v=>jj v m s) m s fun v4 m s=>jnD true v0 (fun jj=>dL z m (nat_lit 256) (nat_lit 239) s v4 jj) m s fun v5 m s=>jnD true v0 (fun jj=>jj (r q0) m s) m s fun v6 m s=>jnD true v0 (fun jj=>jj (r q1) m s) m s fun v7 m s=>jnD true v0 (fun jj=>ixs n1 v6 v7 fun v=>jj v m s) m s fun v8 m s=>jnD true v0 (fun jj=>dL z m (nat_lit 4096) (nat_lit 3599) s v8 jj) m s fun v9 m s=>jnD true v0 (fun jj=>dw3 m (nat_lit 8192) (nat_lit 8191) s (fun s q=>h_op4_callV (.c v1) [(.c v5),(.c v9)] c r s q) jj) m s fun v10 m s=>jnD true v0 (fun jj=>binK .lss v10 I0 fun v=>jj v m s) m s fun v11 m s=>pck v0 v11 ff fun v12=>K [v12] s) s.next mk0)
 (.cond (.t qg) .skip
 (.exit i0)))
 (.block i1 (.reg [q12] fun c r s K=>binK .add (r q12) I1 fun v0=>K [v0] s)))))
noncomputable def scanD (i0 i1:Nat) (qg:Pth):HC:=(.block i0 (.loop (.seq (.seq (.drw [qg] fun c r s K=>(fun z m=>binK .leq (r q12) (r q13) fun v0=>jnD true v0 (fun jj=>jj (r q4) m s) m s fun v1 m s=>jnD true v0 (fun jj=>jj (r q0) m s) m s fun v2 m s=>jnD true v0 (fun jj=>jj (r q13) m s) m s fun v3 m s=>jnD true v0 (fun jj=>ixs n1 v2 v3 fun v=>jj v m s) m s fun v4 m s=>jnD true v0 (fun jj=>dL z m (nat_lit 256) (nat_lit 239) s v4 jj) m s fun v5 m s=>jnD true v0 (fun jj=>jj (r q0) m s) m s fun v6 m s=>jnD true v0 (fun jj=>jj (r q1) m s) m s fun v7 m s=>jnD true v0 (fun jj=>ixs n1 v6 v7 fun v=>jj v m s) m s fun v8 m s=>jnD true v0 (fun jj=>dL z m (nat_lit 4096) (nat_lit 3599) s v8 jj) m s fun v9 m s=>jnD true v0 (fun jj=>dw3 m (nat_lit 8192) (nat_lit 8191) s (fun s q=>h_op4_callV (.c v1) [(.c v5),(.c v9)] c r s q) jj) m s fun v10 m s=>jnD true v0 (fun jj=>binK .lss v10 I0 fun v=>jj v m s) m s fun v11 m s=>jnD true v0 (fun jj=>nott v11 fun v=>jj v m s) m s fun v12 m s=>pck v0 v12 ff fun v13=>K [v13] s) s.next mk0)
 (.cond (.t qg) .skip
 (.exit i0)))
 (.block i1 (.reg [q13] fun c r s K=>binK .sub (r q13) I1 fun v0=>K [v0] s)))))
theorem scanU_ok (H:Cmp F s0 id v lt es0) {i0 i1:Nat}{qg:Pth}{i J:Nat}{ρ0:Ev}{n:Nat} (hq:qoff [qg] [q0,q1,q2,q4,q12,q13]=true) (h0:On s0 id off m v lt es0 s es) (hn:n=es.length)
  (e0:ρ0 q0=.sc (.slice id off n cap 1)) (e1:ρ0 q1=iv a) (e4:ρ0 q4=.sc v) (e12:ρ0 q12=iv i) (e13:ρ0 q13=iv ((J:Int) - 1)) (hi:a<i) (hiJ:i≤J) (hJ:J≤b) (hb:b≤es.length) (hp:Pt lt es a b i J) :
  Ru (cF F) (scanU i0 i1 qg) ρ0 s (Then (fun ρ t=>Keep [q0,q1,q2,q4,q13] ρ ρ0∧Fr s t∧∃ i':Nat,ρ q12=iv i'∧i≤i'∧i'≤J∧Pt lt es a b i' J∧(i'<J→lt (el es i') (el es a)=false)) fun _ _ _=>False):=by
 subst hn
 have hlen:=h0.len
 refine Ru.block (Ru.lp [q0,q1,q2,q4,q13] (fun k:Nat=>J - k) (fun k ρ t=>ρ q12=iv k∧Fr s t∧i≤k∧k≤J∧Pt lt es a b k J) ⟨i,e12,.refl h0.cs.wf,Nat.le_refl _,hiJ,hp⟩ fun k ρ t hk hI=>?_)
 clear e12
 obtain ⟨e12,hf,hik,hkJ,hpk⟩:=hI
 have hT:=h0.fr hf
 refine Ru.seq (Ru.ds fun P hP=>?_)
 refine Rg.imp (P:=fun l t'=>∃ c:Bool,l=[bl c]∧Fr t t'∧(c=true↔k<J∧lt (el es k) (el es a)=true)) (Rg.hide fun P2 hP2=>?_) fun l t' h=>hP _ _ ?_
 ·by_cases hkJ':k<J
  ·have r1:=hT.cs.rd k (by omega)
   have r2:=hT.cs.rd a (by omega)
   simp -implicitDefEqProofs (disch:=first|decide|omega) [hk.e,e0,e1,e4,e12,e13,r1,r2]
   refine H.dc hT.cs.wf hT.sm (hT.mem (by omega)) (hT.mem (by omega)) (by decide) (by decide) fun n s' hf hn=>?_
   simp -implicitDefEqProofs (disch:=first|decide|omega)
   refine Rg.ret (hP2 _ _ ⟨_,rfl,hf, ?_⟩)
   simp
   rw [hn]
   exact ⟨fun h=>⟨hkJ',h⟩,fun h=>h.2⟩
  ·simp -implicitDefEqProofs (disch:=first|decide|omega) [hk.e,e0,e1,e4,e12,e13]
   refine Rg.ret (hP2 _ _ ⟨_,rfl,.refl hT.cs.wf, ?_⟩)
   simp;omega
 obtain ⟨c,rfl,hf',hc⟩:=h
 clear hP P
 have hku:Keep [q0,q1,q2,q4,q12,q13] (updE [qg] [bl c] ρ) ρ:=Keep.up hq (Keep.refl _ _)
 have hk0:Keep [q0,q1,q2,q4,q13] (updE [qg] [bl c] ρ) ρ0:=Keep.via (by rfl) hku hk
 refine Ru.cond (upd_at ρ qg (bl c)) (fun h=>Ru.skip ?_) fun h=>Ru.exit ?_
 ·subst h
  obtain ⟨h1,h2⟩:=hc.1 rfl
  simp only [Then,Out]
  refine Ru.block (Ru.r1 fun P hP=>?_)
  have e12':=(hku.e q12 rfl).trans e12
  generalize updE [qg] [bl true] ρ=ρ2 at *
  simp -implicitDefEqProofs (disch:=first|decide|omega) [e12']
  refine Rg.ret (hP _ _ ⟨by repeat first | exact hk0 | refine Keep.up (by rfl) ?_,k+1,by omega,rfl,hf.trans hf',by omega,by omega,⟨fun p hp1 hp2=>?_,hpk.hi⟩⟩)
  by_cases hpk':p=k
  ·subst hpk';exact h2
  ·exact hpk.lo p hp1 (by omega)
 ·subst h
  have hn:¬ (k<J∧lt (el es k) (el es a)=true):=fun hh=>by have:=hc.2 hh;cases this
  refine Out.hit ?_
  simp only [Then]
  refine ⟨hk0,hf.trans hf',k,(hku.e q12 rfl).trans e12,hik,hkJ,hpk,fun hh=>?_⟩
  cases hx:lt (el es k) (el es a) with
  | false=>rfl
  | true=>exact absurd ⟨hh,hx⟩ hn
theorem scanD_ok (H:Cmp F s0 id v lt es0) {i0 i1:Nat}{qg:Pth}{i J:Nat}{ρ0:Ev}{n:Nat} (hq:qoff [qg] [q0,q1,q2,q4,q12,q13]=true) (h0:On s0 id off m v lt es0 s es) (hn:n=es.length)
  (e0:ρ0 q0=.sc (.slice id off n cap 1)) (e1:ρ0 q1=iv a) (e4:ρ0 q4=.sc v) (e12:ρ0 q12=iv i) (e13:ρ0 q13=iv ((J:Int) - 1)) (hi:a<i) (hiJ:i≤J) (hJ:J≤b) (hb:b≤es.length) (hp:Pt lt es a b i J) :
  Ru (cF F) (scanD i0 i1 qg) ρ0 s (Then (fun ρ t=>Keep [q0,q1,q2,q4,q12] ρ ρ0∧Fr s t∧∃ J':Nat,ρ q13=iv ((J':Int) - 1)∧i≤J'∧J'≤J∧Pt lt es a b i J'∧(i<J'→lt (el es (J' - 1)) (el es a)=true)) fun _ _ _=>False):=by
 subst hn
 have hlen:=h0.len
 refine Ru.block (Ru.lp [q0,q1,q2,q4,q12] (fun k:Nat=>k - i) (fun k ρ t=>ρ q13=iv ((k:Int) - 1)∧Fr s t∧i≤k∧k≤J∧Pt lt es a b i k) ⟨J,e13,.refl h0.cs.wf,hiJ,Nat.le_refl _,hp⟩ fun k ρ t hk hI=>?_)
 clear e13
 obtain ⟨e13,hf,hik,hkJ,hpk⟩:=hI
 have hT:=h0.fr hf
 refine Ru.seq (Ru.ds fun P hP=>?_)
 refine Rg.imp (P:=fun l t'=>∃ c:Bool,l=[bl c]∧Fr t t'∧(c=true↔i<k∧lt (el es (k - 1)) (el es a)=false)) (Rg.hide fun P2 hP2=>?_) fun l t' h=>hP _ _ ?_
 ·by_cases hkJ':i<k
  ·obtain ⟨j,rfl⟩:∃ j,k=j+1:=⟨k - 1,by omega⟩
   have e:((j+1:Nat):Int) - 1=(j:Int):=by omega
   rw [e] at e13
   have r1:=hT.cs.rd j (by omega)
   have r2:=hT.cs.rd a (by omega)
   simp -implicitDefEqProofs (disch:=first|decide|omega) [hk.e,e0,e1,e4,e12,e13,r1,r2]
   refine H.dc hT.cs.wf hT.sm (hT.mem (by omega)) (hT.mem (by omega)) (by decide) (by decide) fun n s' hf hn=>?_
   simp -implicitDefEqProofs (disch:=first|decide|omega)
   refine Rg.ret (hP2 _ _ ⟨_,rfl,hf, ?_⟩)
   simp
   have hn':(0≤n)↔lt (el es j) (el es a)=false:=by
    rw [← Bool.not_eq_true,← hn];omega
   rw [hn']
   exact ⟨fun h=>⟨hkJ',h⟩,fun h=>h.2⟩
  ·simp -implicitDefEqProofs (disch:=first|decide|omega) [hk.e,e0,e1,e4,e12,e13]
   refine Rg.ret (hP2 _ _ ⟨_,rfl,.refl hT.cs.wf, ?_⟩)
   simp;omega
 obtain ⟨c,rfl,hf',hc⟩:=h
 clear hP P
 have hku:Keep [q0,q1,q2,q4,q12,q13] (updE [qg] [bl c] ρ) ρ:=Keep.up hq (Keep.refl _ _)
 have hk0:Keep [q0,q1,q2,q4,q12] (updE [qg] [bl c] ρ) ρ0:=Keep.via (by rfl) hku hk
 refine Ru.cond (upd_at ρ qg (bl c)) (fun h=>Ru.skip ?_) fun h=>Ru.exit ?_
 ·subst h
  obtain ⟨h1,h2⟩:=hc.1 rfl
  simp only [Then,Out]
  refine Ru.block (Ru.r1 fun P hP=>?_)
  have e13':=(hku.e q13 rfl).trans e13
  generalize updE [qg] [bl true] ρ=ρ2 at *
  obtain ⟨j,rfl⟩:∃ j,k=j+1:=⟨k - 1,by omega⟩
  have e:((j+1:Nat):Int) - 1=(j:Int):=by omega
  rw [e] at e13'
  simp -implicitDefEqProofs (disch:=first|decide|omega) [e13']
  refine Rg.ret (hP _ _ ⟨by repeat first | exact hk0 | refine Keep.up (by rfl) ?_,j,by omega,rfl,hf.trans hf',by omega,by omega,⟨hpk.lo,fun p hp1 hp2=>?_⟩⟩)
  by_cases hpk':p=j
  ·subst hpk';exact h2
  ·exact hpk.hi p (by omega) hp2
 ·subst h
  have hn:¬ (i<k∧lt (el es (k - 1)) (el es a)=false):=fun hh=>by have:=hc.2 hh;cases this
  refine Out.hit ?_
  simp only [Then]
  refine ⟨hk0,hf.trans hf',k,(hku.e q13 rfl).trans e13,hik,hkJ,hpk,fun hh=>?_⟩
  cases hx:lt (el es (k - 1)) (el es a) with
  | true=>rfl
  | false=>exact absurd ⟨hh,hx⟩ hn
end
section
variable {F:Nat→Option HF}{z0:PdN}{s t u s0:St}{id off m a b:Nat}{cap:Option Nat}{es es' es0:List S}{v:S}{lt:S→S→Bool}
theorem Ru.then {C:Nat→CallK}{a b:HC}{ρ:Ev}{st:St}{Q:X→Ev→St→Prop} (M:Ev→St→Prop) (h1:Ru C a ρ st (Then M fun _ _ _=>False)) (h2:∀ ρ s,M ρ s→Ru C b ρ s Q):Ru C (.seq a b) ρ st Q :=
 Ru.mid M h1 h2
theorem part_ok (hz:PdAt F z0) (H:Cmp F s0 id v lt es0) (h0:On s0 id off m v lt es0 s es) {pv:Nat} (hap:a≤pv) (hpb:pv<b) (hb:b≤es.length) :
  Ca (cF F) z0.part [.sc (.slice id off es.length cap 1),iv a,iv b,iv pv,.sc v] s (fun r s'=>∃ (mid:Nat) (c:Bool) (es':List S),r=.tup [(false,[is mid]),(false,[.bool c])]∧a≤mid∧mid<b∧To s0 id off m v lt es0 s es a b s' es' ∧
   (∀ p,a≤p→p<mid→lt (el es' p) (el es' mid)=true)∧∀ p,mid<p→p<b→lt (el es' p) (el es' mid)=false):=by
 have hlen:=h0.len
 refine Ca.of (hf:=hPart z0) hz.part.1 hz.part.2 [q0,q1,q2,q3,q4] [.tmp q10,.tmp q11] rfl rfl rfl fun Q hQ=>?_
 refine Ru.rs fun P hP=>Rg.ret (hP _ _ ?_)
 clear hP P
 have hcs:=h0.cs
 have r1:=hcs.rd pv (by omega)
 have r2:=hcs.rd a (by omega)
 have d1:=hcs.d1 (i:=a) (by omega) (el es pv)
 have d2:=(hcs.set (i:=a) (by omega) (el es pv)).d1 (i:=pv) (by simp;omega) (el es a)
 have hT1:=(To.refl h0 a b).sw (i:=a) (j:=pv) hb (Nat.le_refl _) (by omega) hap hpb
 refine Ru.ds fun P hP=>?_
 simp -implicitDefEqProofs (disch:=first|decide|omega | (apply okS_t;decide;(simp (decide:=true) <;> omega))) [r1,r2,d1,d2]
 refine Rg.ret (hP _ _ ?_)
 clear hP P r1 r2 d1 d2 hcs
 generalize wr (wr s id (off+a) [el es pv]) id (off+pv) [el es a]=s1 at *
 generalize sw es a pv=es1 at *
 have hl1:=hT1.len
 refine Ru.rs fun P hP=>?_
 simp -implicitDefEqProofs (disch:=first|decide|omega)
 refine Rg.ret (hP _ _ ?_)
 clear hP P
 refine Ru.at (fun ρ=>ρ q0=.sc (.slice id off es.length cap 1)∧ρ q1=iv a∧ρ q4=.sc v∧ρ q12=iv (a+1:Nat)∧ρ q13=iv ((b:Int) - 1)) ⟨rfl,rfl,rfl,rfl,rfl⟩ fun ρ0 hE=>?_
 obtain ⟨e0,e1,e4,e12,e13⟩:=hE
 have round:∀ (i0 i1 i2 i3:Nat) (qa qb:Pth) (c:HC) (Q':X→Ev→St→Prop),qoff [qa] [q0,q1,q2,q4,q12,q13]=true→qoff [qb] [q0,q1,q2,q4,q12,q13]=true→∀ (ρ:Ev) (s2:St) (es2:List S) (i J:Nat),Keep [q0,q1,q4] ρ ρ0→ρ q12=iv i→ρ q13=iv ((J:Int) - 1)→To s0 id off m v lt es0 s es a b s2 es2 →
   a<i→i≤J→J≤b→Pt lt es2 a b i J →
   (∀ (ρ':Ev) (s3:St) (i' J':Nat),Keep [q0,q1,q4] ρ' ρ0→ρ' q12=iv i'→ρ' q13=iv ((J':Int) - 1)→To s0 id off m v lt es0 s es a b s3 es2→i≤i'→i'≤J'→J'≤J→Pt lt es2 a b i' J'→(i'<J'→lt (el es2 i') (el es2 a)=false∧lt (el es2 (J' - 1)) (el es2 a)=true)→Ru (cF F) c ρ' s3 Q') →
   Ru (cF F) (.seq (scanU i0 i1 qa) (.seq (scanD i2 i3 qb) c)) ρ s2 Q':=by
  intro i0 i1 i2 i3 qa qb c Q' hqa hqb ρ s2 es2 i J hk k12 k13 hT hi hiJ hJ hp hc
  have hl:=hT.len
  refine Ru.mid _ (scanU_ok H hqa hT.1 hl.symm ((hk.e q0 rfl).trans e0) ((hk.e q1 rfl).trans e1) ((hk.e q4 rfl).trans e4) k12 k13 hi hiJ hJ (by omega) hp) fun ρ1 s3 h=>?_
  obtain ⟨hk1,hf1,i',k12',h1,h2,hp1,hx1⟩:=h
  have hT3:=hT.fr hf1
  have hk1':Keep [q0,q1,q4] ρ1 ρ0:=Keep.via (by rfl) hk1 hk
  refine Ru.mid _ (scanD_ok H hqb hT3.1 hl.symm ((hk1'.e q0 rfl).trans e0) ((hk1'.e q1 rfl).trans e1) ((hk1'.e q4 rfl).trans e4) k12' ((hk1.e q13 rfl).trans k13) (by omega) h2 hJ (by omega) hp1) fun ρ2 s4 h=>?_
  obtain ⟨hk2,hf2,J',k13',h3,h4,hp2,hx2⟩:=h
  exact hc ρ2 s4 i' J' (Keep.via (by rfl) hk2 hk1') ((hk2.e q12 rfl).trans k12') k13' (hT3.fr hf2) h1 h3 h4 hp2 fun hlt=>⟨hx1 (by omega),hx2 hlt⟩
 have last:∀ (ρ:Ev) (s2:St) (es2:List S) (i J:Nat) (tr:V) (c:Bool) (Q':X→Ev→St→Prop),tr=bl c→(∀ ρ s,Q .ret ρ s→Q' .ret ρ s)→Keep [q0,q1,q4] ρ ρ0→ρ q13=iv ((J:Int) - 1)→To s0 id off m v lt es0 s es a b s2 es2→a<i→i=J→J≤b→Pt lt es2 a b i J →
   Ru (cF F) (.seq (.drw [] fun c r s K=>(fun z m=>ixs n1 (r q0) (r q1) fun v0=>dL z m n128 n112 s v0 fun v1 m s=>ixs n1 (r q0) (r q13) fun v2=>dL z m (nat_lit 2048) (nat_lit 1792) s v2 fun v3 m s=>ixs n1 (r q0) (r q13) fun v4=>dS z m (nat_lit 8192) (nat_lit 8179) s n1 v4 v1 fun _ m s=>ixs n1 (r q0) (r q1) fun v6=>dS z m (nat_lit 32768) (nat_lit 32767) s n1 v6 v3 fun _ m s=>K [] s) s.next mk0)
    (.seq (.reg [q10,q11] fun c r s K=>K [(r q13),tr] s) .ret)) ρ s2 Q':=by
  intro ρ s2 es2 i J tr c Q' htr hQ' hk k13 hT hi hiJ hJ hp
  subst htr;subst hiJ
  obtain ⟨j,rfl⟩:∃ j,i=j+1:=⟨i - 1,by omega⟩
  have e:((j+1:Nat):Int) - 1=(j:Int):=by omega
  rw [e] at k13
  have hl:=hT.len
  have hcs:=hT.1.cs
  have r1:=hcs.rd a (by omega)
  have r2:=hcs.rd j (by omega)
  have d1:=hcs.d1 (i:=j) (by omega) (el es2 a)
  have d2:=(hcs.set (i:=j) (by omega) (el es2 a)).d1 (i:=a) (by simp;omega) (el es2 j)
  have hT2:=hT.sw (i:=j) (j:=a) hb (by omega) (by omega) (by omega) (by omega)
  refine Ru.ds fun P hP=>?_
  simp -implicitDefEqProofs (disch:=first|decide|omega | (apply okS_t;decide;(simp (decide:=true) <;> omega))) [hk.e,e0,e1,k13,r1,r2,d1,d2]
  refine Rg.ret (hP _ _ ?_)
  clear hP P
  refine Ru.rs fun P hP=>Rg.ret (hP _ _ (Ru.ret (hQ' _ _ (hQ _ _ ?_))))
  obtain ⟨x1,x2⟩:=hp.done (by omega) (by omega) (by omega)
  exact .two (a:=is j) (b:=.bool c) (by simp (disch:=first|decide|omega) [k13]) rfl ⟨j,c,_,rfl,by omega,by omega,hT2,x1,x2⟩
 have turn:∀ (ρ:Ev) (s2:St) (es2:List S) (i J:Nat) (c:HC) (Q':X→Ev→St→Prop),Keep [q0,q1,q4] ρ ρ0→ρ q12=iv i→ρ q13=iv ((J:Int) - 1)→To s0 id off m v lt es0 s es a b s2 es2→a<i→i<J→J≤b→Pt lt es2 a b i J→lt (el es2 i) (el es2 a)=false→lt (el es2 (J - 1)) (el es2 a)=true →
   (∀ ρ' s3 es3,Keep [q0,q1,q4] ρ' ρ0→ρ' q12=iv i→ρ' q13=iv ((J:Int) - 1)→To s0 id off m v lt es0 s es a b s3 es3→i+1≤J - 1→Pt lt es3 a b (i+1) (J - 1)→Ru (cF F) c ρ' s3 Q') →
   Ru (cF F) (.seq (.drw [] fun c r s K=>(fun z m=>ixs n1 (r q0) (r q13) fun v0=>dL z m n128 n112 s v0 fun v1 m s=>ixs n1 (r q0) (r q12) fun v2=>dL z m (nat_lit 2048) (nat_lit 1792) s v2 fun v3 m s=>ixs n1 (r q0) (r q12) fun v4=>dS z m (nat_lit 8192) (nat_lit 8179) s n1 v4 v1 fun _ m s=>ixs n1 (r q0) (r q13) fun v6=>dS z m (nat_lit 32768) (nat_lit 32767) s n1 v6 v3 fun _ m s=>K [] s) s.next mk0) c) ρ s2 Q':=by
  intro ρ s2 es2 i J c Q' hk k12 k13 hT hi hiJ hJ hp h1 h2 hc
  obtain ⟨j,rfl⟩:∃ j,J=j+1:=⟨J - 1,by omega⟩
  have e:((j+1:Nat):Int) - 1=(j:Int):=by omega
  rw [e] at k13
  have hl:=hT.len
  have hcs:=hT.1.cs
  have r1:=hcs.rd i (by omega)
  have r2:=hcs.rd j (by omega)
  have d1:=hcs.d1 (i:=i) (by omega) (el es2 j)
  have d2:=(hcs.set (i:=i) (by omega) (el es2 j)).d1 (i:=j) (by simp;omega) (el es2 i)
  have hT2:=hT.sw (i:=i) (j:=j) hb (by omega) (by omega) (by omega) (by omega)
  refine Ru.ds fun P hP=>?_
  simp -implicitDefEqProofs (disch:=first|decide|omega | (apply okS_t;decide;(simp (decide:=true) <;> omega))) [hk.e,e0,k12,k13,r1,r2,d1,d2]
  refine Rg.ret (hP _ _ ?_)
  have hne:i≠j:=fun hh=>by subst hh;simp at h2;rw [h1] at h2;cases h2
  exact hc _ _ _ (by repeat first | exact hk | refine Keep.up (by rfl) ?_) k12 (by rw [e];exact k13) hT2 (by omega) (hp.turn hi (by omega) (by omega) (by omega) h1 (by simpa using h2))
 refine round n0 n1 n2 n3 q47 q66 _ Q (by rfl) (by rfl) ρ0 s1 es1 (a+1) b (Keep.refl _ _) e12 e13 hT1 (by omega) (by omega) (Nat.le_refl _) ⟨fun p h1 h2=>by omega,fun p h1 h2=>by omega⟩ fun ρ1 s2 i J hk k12 k13 hT2 hi hiJ hJ hp hx=>?_
 refine Ru.seq (Ru.rs fun P hP=>?_)
 simp -implicitDefEqProofs (disch:=first|decide|omega) [k12,k13]
 refine Rg.ret (hP _ _ ?_)
 clear hP P
 refine Ru.cond rfl (fun h=>?_) fun h=>Ru.skip ?_
 ·
  simp at h
  exact last _ s2 es1 i J tt true _ rfl (fun ρ s h=>h) (by repeat first | exact hk | refine Keep.up (by rfl) ?_) (by simp (disch:=first|decide|omega) [k13]) hT2 (by omega) (by omega) hJ hp
 simp at h
 simp only [Then]
 have hlt:i<J:=by omega
 obtain ⟨x1,x2⟩:=hx hlt
 refine turn _ s2 es1 i J _ Q (by repeat first | exact hk | refine Keep.up (by rfl) ?_) (by simp (disch:=first|decide|omega) [k12]) (by simp (disch:=first|decide|omega) [k13]) hT2 (by omega) hlt hJ hp x1 x2 fun ρ2 s3 es3 hk3 k12 k13 hT3 hi3 hp3=>?_
 refine Ru.rs fun P hP=>?_
 simp -implicitDefEqProofs (disch:=first|decide|omega) [k12]
 refine Rg.ret (hP _ _ ?_)
 clear hP P
 refine Ru.rs fun P hP=>?_
 simp -implicitDefEqProofs (disch:=first|decide|omega) [k13]
 refine Rg.ret (hP _ _ ?_)
 clear hP P
 refine Ru.at (fun ρ'=>Keep [q0,q1,q4] ρ' ρ0∧ρ' q12=iv (i+1:Nat)∧ρ' q13=iv ((J - 1:Nat) - 1:Int)) ⟨by repeat first | exact hk3 | refine Keep.up (by rfl) ?_,by simp (disch:=first|decide|omega),by simp (disch:=first|decide|omega);congr 2;omega⟩ fun ρ3 hE=>?_
 clear hk k12 k13 hk3
 obtain ⟨hk,k12,k13⟩:=hE
 refine Ru.mid (fun ρ t=>Keep [q0,q1,q4] ρ ρ0∧∃ (i J:Nat) (es4:List S),ρ q12=iv i∧ρ q13=iv ((J:Int) - 1)∧To s0 id off m v lt es0 s es a b t es4∧a<i∧i=J∧J≤b∧Pt lt es4 a b i J) ?_ fun ρ4 s4 hM=>?_
 ·refine Ru.block (Ru.lp [q0,q1,q4] (fun x:Nat×Nat=>x.2 - x.1) (fun x ρ t=>ρ q12=iv x.1∧ρ q13=iv ((x.2:Int) - 1)∧a<x.1∧x.1≤x.2∧x.2≤b∧∃ es4,To s0 id off m v lt es0 s es a b t es4∧Pt lt es4 a b x.1 x.2)
   ⟨(i+1,J - 1),k12,k13,by simp;omega,by simp;omega,by simp;omega,es3,hT3,hp3⟩ fun x ρ4 s4 hk' hI=>?_)
  clear k12 k13
  obtain ⟨i',J'⟩:=x
  obtain ⟨k12,k13,y1,y2,y3,es4,hT4,hp4⟩:=hI
  simp only at k12 k13 y1 y2 y3 hp4
  have hk4:Keep [q0,q1,q4] ρ4 ρ0:=Keep.via (by rfl) hk' hk
  refine Ru.block ?_
  refine round n6 n7 n8 n9 q120 q139 _ _ (by rfl) (by rfl) ρ4 s4 es4 i' J' hk4 k12 k13 hT4 y1 y2 y3 hp4 fun ρ5 s5 i5 J5 hk5 k12 k13 hT5 z1 z2 z3 hp5 hx5=>?_
  refine Ru.seq (Ru.rs fun P hP=>?_)
  simp -implicitDefEqProofs (disch:=first|decide|omega) [k12,k13]
  refine Rg.ret (hP _ _ ?_)
  clear hP P
  refine Ru.cond rfl (fun h=>Ru.exit ?_) fun h=>Ru.skip ?_
  ·simp at h
   simp only [Then,Out]
   refine ⟨by repeat first | exact hk5 | refine Keep.up (by rfl) ?_,i5,J5,es4,by simp (disch:=first|decide|omega) [k12],by simp (disch:=first|decide|omega) [k13],hT5,by omega,by omega,by omega,hp5⟩
  simp at h
  simp only [Then]
  have hlt5:i5<J5:=by omega
  obtain ⟨w1,w2⟩:=hx5 hlt5
  refine turn _ s5 es4 i5 J5 _ _ (by repeat first | exact hk5 | refine Keep.up (by rfl) ?_) (by simp (disch:=first|decide|omega) [k12]) (by simp (disch:=first|decide|omega) [k13]) hT5 (by omega) hlt5 (by omega) hp5 w1 w2 fun ρ6 s6 es6 hk6 k12 k13 hT6 hi6 hp6=>?_
  refine Ru.rs fun P hP=>?_
  simp -implicitDefEqProofs (disch:=first|decide|omega) [k12]
  refine Rg.ret (hP _ _ ?_)
  clear hP P
  refine Ru.r1 fun P hP=>?_
  simp -implicitDefEqProofs (disch:=first|decide|omega) [k13]
  have hkk:Keep [q0,q1,q4] ρ6 ρ3:=fun q hq=>by rw [hk6 q hq,hk q hq]
  refine Rg.ret (hP _ _ ⟨by repeat first | exact hkk | refine Keep.up (by rfl) ?_,(i5+1,J5 - 1),by simp;omega,by simp (disch:=first|decide|omega),by simp (disch:=first|decide|omega);congr 2;omega,by simp;omega,by simp;omega,by simp;omega,es6,hT6,hp6⟩)
 obtain ⟨hk4,i4,J4,es4,k12,k13,hT4,w1,w2,w3,hp4⟩:=hM
 exact last _ s4 es4 i4 J4 ff false Q rfl (fun ρ s h=>h) hk4 k13 hT4 w1 w2 w3 hp4
end
section
variable {F:Nat→Option HF}{z0:PdN}{s t u s0:St}{id off m a b:Nat}{cap:Option Nat}{es es' es0:List S}{v:S}{lt:S→S→Bool}
theorem Ru.midQ {C:Nat→CallK}{a b:HC}{ρ:Ev}{st:St}{Q:X→Ev→St→Prop} (M:Ev→St→Prop) (h1:Ru C a ρ st (Then M Q)) (h2:∀ ρ s,M ρ s→Ru C b ρ s Q):Ru C (.seq a b) ρ st Q :=
 Ru.seq (h1.imp fun x ρ s h=>by cases x with | normal=>exact h2 ρ s h | exit i=>exact h | ret=>exact h)
def Lb (lt:S→S→Bool) (es:List S) (a b:Nat):Prop:=a=0∨∀ p,a≤p→p<b→lt (el es (a - 1)) (el es p)=true
theorem Lb.mv (h:Lb lt es a b) (k:Mv es es' a b) (hb:b≤es.length):Lb lt es' a b:=by
 rcases h with h | h
 ·exact .inl h
 ·by_cases ha:a=0
  ·exact .inl ha
  ·refine .inr fun p h1 h2=>?_
   rw [k.off (a - 1) (.inl (by omega))]
   exact k.rng hb (fun x=>lt (el es (a - 1)) x=true) h p h1 h2
theorem Srt.one (lt:S→S→Bool) (es:List S) (a:Nat):Srt lt es a (a+1):=fun i j h1 h2 h3=>by omega
theorem Srt.snoc (ho:Ltr lt) {i:Nat} (h:Srt lt es a i) (hi:a<i) (hl:lt (el es (i - 1)) (el es i)=true):Srt lt es a (i+1):=fun p q h1 h2 h3=>by
 by_cases hq:q=i
 ·subst hq
  by_cases hp:p=q - 1
  ·rw [hp];exact hl
  ·exact ho.trans _ _ _ (h p (q - 1) h1 (by omega) (by omega)) hl
 ·exact h p q h1 h2 (by omega)
theorem pins_ok (hz:PdAt F z0) (H:Cmp F s0 id v lt es0) (h0:On s0 id off m v lt es0 s es) (hab:a<b) (hb:b≤es.length) (hlb:Lb lt es a b) :
  Ca (cF F) z0.pIns [.sc (.slice id off es.length cap 1),iv a,iv b,.sc v] s (fun r s'=>∃ (c:Bool) (es':List S),r=bl c∧To s0 id off m v lt es0 s es a b s' es'∧(c=true→Srt lt es' a b)):=by
 have hlen:=h0.len
 refine Ca.of (hf:=hPIns z0) hz.pIns.1 hz.pIns.2 [q0,q1,q2,q3] [.tmp q8] rfl rfl rfl fun Q hQ=>?_
 refine Ru.rs fun P hP=>Rg.ret (hP _ _ ?_)
 clear hP P
 refine Ru.rs fun P hP=>?_
 simp -implicitDefEqProofs (disch:=first|decide|omega)
 refine Rg.ret (hP _ _ ?_)
 clear hP P
 refine Ru.at (fun ρ=>ρ q0=.sc (.slice id off es.length cap 1)∧ρ q1=iv a∧ρ q2=iv b∧ρ q3=.sc v∧ρ q9=iv (a+1:Nat)) ⟨rfl,rfl,rfl,rfl,rfl⟩ fun ρ0 hE=>?_
 obtain ⟨e0,e1,e2,e3,e9⟩:=hE
 have fin:∀ (ρ:Ev) (s2:St) (es2:List S) (tr:V) (c:Bool) (Q':X→Ev→St→Prop),tr=bl c→(∀ ρ s,Q .ret ρ s→Q' .ret ρ s)→To s0 id off m v lt es0 s es a b s2 es2→(c=true→Srt lt es2 a b)→Ru (cF F) (.seq (.reg [q8] fun c r s K=>K [tr] s) .ret) ρ s2 Q':=by
  intro ρ s2 es2 tr c Q' htr hQ' hT hc
  subst htr
  exact Ru.rs fun P hP=>Rg.ret (hP _ _ (Ru.ret (hQ' _ _ (hQ _ _ (.one rfl ⟨c,es2,rfl,hT,hc⟩)))))
 have sw1:∀ (qj:Pth) (ρ:Ev) (s2:St) (es2:List S) (j:Nat) (P:List V→St→Prop),ρ q0=.sc (.slice id off es.length cap 1)→ρ qj=iv (j+1:Nat)→To s0 id off m v lt es0 s es a b s2 es2→j+1<es.length→P [] (wr (wr s2 id (off+(j+1)) [el es2 j]) id (off+j) [el es2 (j+1)]) →
   Rg (cF F) (fun c K=>(fun (z:Nat) (m:Mk)=>binK .sub (ρ qj) I1 fun v0=>binK .sub (ρ qj) I1 fun v1=>ixs n1 (ρ q0) v1 fun v2=>dL z m (nat_lit 512) (nat_lit 480) s2 v2 fun v3 m s=>ixs n1 (ρ q0) (ρ qj) fun v4=>dL z m (nat_lit 8192) (nat_lit 7168) s v4 fun v5 m s=>ixs n1 (ρ q0) (ρ qj) fun v6=>dS z m (nat_lit 32768) (nat_lit 32739) s n1 v6 v3 fun _ m s=>ixs n1 (ρ q0) v0 fun v8=>dS z m (nat_lit 131072) (nat_lit 131071) s n1 v8 v5 fun _ m s=>K [] s) s2.next mk0) P:=by
  intro qj ρ s2 es2 j P k0 kj hT hj hP
  obtain ⟨A,hA⟩:∃ A,A=j+1:=⟨_,rfl⟩
  rw [← hA] at hP kj hj
  have e:((A:Nat):Int) - 1=(j:Int):=by omega
  have hl:=hT.len
  have hcs:=hT.1.cs
  have r1:=hcs.rd A (by omega)
  have r2:=hcs.rd j (by omega)
  have d1:=hcs.d1 (i:=A) (by omega) (el es2 j)
  have d2:=(hcs.set (i:=A) (by omega) (el es2 j)).d1 (i:=j) (by simp;omega) (el es2 A)
  simp -implicitDefEqProofs (disch:=first|decide|omega | (apply okS_t;decide;(simp (decide:=true) <;> omega))) [k0,kj,e,r1,r2,d1,d2]
  exact Rg.ret hP
 have cm1:∀ (qj:Pth) (ρ:Ev) (s2:St) (es2:List S) (j:Nat) (P:List V→St→Prop),ρ q0=.sc (.slice id off es.length cap 1)→ρ q3=.sc v→ρ qj=iv (j+1:Nat)→To s0 id off m v lt es0 s es a b s2 es2→j+1<es.length→(∀ (c:Bool) t,Fr s2 t→(c=false↔lt (el es2 (j+1)) (el es2 j)=true)→P [bl c] t) →
   Rg (cF F) (fun c K=>(fun (z:Nat) (m:Mk)=>ixs n1 (ρ q0) (ρ qj) fun v0=>dL z m n16 n14 s2 v0 fun v1 m s=>binK .sub (ρ qj) I1 fun v2=>ixs n1 (ρ q0) v2 fun v3=>dL z m (nat_lit 512) (nat_lit 480) s v3 fun v4 m s=>dw3 m (nat_lit 1024) (nat_lit 1023) s (fun s q=>h_op4_callV (.c (ρ q3)) [(.c v1),(.c v4)] c ρ s q) fun v5 m s=>binK .lss v5 I0 fun v6=>nott v6 fun v7=>K [v7] s) s2.next mk0) P:=by
  intro qj ρ s2 es2 j P k0 k3 kj hT hj hP
  obtain ⟨A,hA⟩:∃ A,A=j+1:=⟨_,rfl⟩
  rw [← hA] at hP kj hj
  have e:((A:Nat):Int) - 1=(j:Int):=by omega
  have hl:=hT.len
  have hcs:=hT.1.cs
  have r1:=hcs.rd A (by omega)
  have r2:=hcs.rd j (by omega)
  simp -implicitDefEqProofs (disch:=first|decide|omega) [k0,k3,kj,e,r1,r2]
  refine H.dc hT.1.cs.wf hT.1.sm (hT.1.mem (by omega)) (hT.1.mem (by omega)) (by decide) (by decide) fun n s' hf hn=>?_
  simp -implicitDefEqProofs (disch:=first|decide|omega)
  refine Rg.ret (hP _ _ hf ?_)
  simp
  exact hn
 refine Ru.midQ (fun ρ t=>∃ es2,To s0 id off m v lt es0 s es a b t es2) ?_ fun ρ t hM=>?_
 rotate_left
 ·obtain ⟨es2,hT2⟩:=hM
  exact fin ρ t es2 ff false Q rfl (fun ρ s h=>h) hT2 (fun h=>by cases h)
 refine Ru.rs fun P hP=>Rg.ret (hP _ _ ?_)
 clear hP P
 refine Ru.at (fun ρ'=>Keep [q0,q1,q2,q3] ρ' ρ0∧ρ' q9=iv (a+1:Nat)∧ρ' q10=iv 0) ⟨Keep.up (by rfl) (Keep.refl _ _),e9,rfl⟩ fun ρ1 hE=>?_
 clear e9
 obtain ⟨hk1,e9,e10⟩:=hE
 refine Ru.block (Ru.lp [q0,q1,q2,q3] (fun x:Nat×Nat=>5 - x.1) (fun x ρ t=>ρ q10=iv x.1∧ρ q9=iv x.2∧a<x.2∧x.2≤b∧∃ es2,To s0 id off m v lt es0 s es a b t es2∧Srt lt es2 a x.2)
  ⟨(0,a+1),e10,e9,by simp,by simp;omega,es,To.refl h0 a b,Srt.one lt es a⟩ fun x ρ s1 hk' hI=>?_)
 clear e9 e10
 obtain ⟨y,i⟩:=x
 obtain ⟨e10,e9,hi,hib,es1,hT1,hS1⟩:=hI
 simp only at e10 e9 hi hib hS1
 have hk:Keep [q0,q1,q2,q3] ρ ρ0:=Keep.via (by rfl) hk' hk1
 refine Ru.seq (Ru.rs fun P hP=>?_)
 simp -implicitDefEqProofs (disch:=first|decide|omega) [e10]
 refine Rg.ret (hP _ _ ?_)
 clear hP P
 refine Ru.cond rfl (fun h=>Ru.skip ?_) fun h=>Ru.exit ?_
 rotate_left
 ·simp only [Then,Out,if_true]
  exact ⟨es1,hT1⟩
 simp at h
 simp only [Then,Out]
 have hy:y<5:=by omega
 refine Ru.midQ (fun ρ' t=>Keep [q0,q1,q2,q3] ρ' ρ0∧ρ' q10=iv y∧∃ (i:Nat) (es2:List S),ρ' q9=iv i∧a<i∧i≤b∧To s0 id off m v lt es0 s es a b t es2∧Srt lt es2 a i) ?_ fun ρ' t hM=>?_
 rotate_left
 ·clear e9 e10 hi hib hT1 hS1
  obtain ⟨hk2,e10,i,es2,e9,hi,hib,hT2,hS2⟩:=hM
  refine Ru.r1 fun P hP=>?_
  simp -implicitDefEqProofs (disch:=first|decide|omega) [e10]
  have hkk:Keep [q0,q1,q2,q3] ρ' ρ1:=fun q hq=>by rw [hk2 q hq,hk1 q hq]
  exact Rg.ret (hP _ _ ⟨by repeat first | exact hkk | refine Keep.up (by rfl) ?_,(y+1,i),by simp;omega,by simp (disch:=first|decide|omega),by simp (disch:=first|decide|omega) [e9],hi,hib,es2,hT2,hS2⟩)
 refine Ru.block ?_
 refine Ru.midQ (fun ρ' t=>Keep [q0,q1,q2,q3] ρ' ρ0∧ρ' q10=iv y∧∃ i:Nat,ρ' q9=iv i∧a<i∧i≤b∧To s0 id off m v lt es0 s es a b t es1∧Srt lt es1 a i∧(i<b→lt (el es1 i) (el es1 (i - 1))=true)) ?_ fun ρ2 s2 hM=>?_
 ·refine Ru.at (fun ρ'=>Keep [q0,q1,q2,q3] ρ' ρ0∧ρ' q9=iv i∧ρ' q10=iv y) ⟨by repeat first | exact hk | refine Keep.up (by rfl) ?_,e9,e10⟩ fun ρ2 hE=>?_
  clear e9 e10 hk hk' ρ
  obtain ⟨hk,e9,e10⟩:=hE
  refine Ru.block (Ru.lp [q0,q1,q2,q3,q10] (fun k:Nat=>b - k) (fun k ρ t=>ρ q9=iv k∧a<k∧k≤b∧To s0 id off m v lt es0 s es a b t es1∧Srt lt es1 a k) ⟨i,e9,hi,hib,hT1,hS1⟩ fun k ρ t hk' hI=>?_)
  clear e9 hi hib hT1 hS1
  obtain ⟨e9,hi,hib,hT1,hS1⟩:=hI
  have hk3:Keep [q0,q1,q2,q3] ρ ρ0:=Keep.via (by rfl) hk' hk
  have e10':ρ q10=iv y:=(hk'.e q10 rfl).trans e10
  have hl1:=hT1.len
  obtain ⟨j,rfl⟩:∃ j,k=j+1:=⟨k - 1,by omega⟩
  refine Ru.seq (Ru.ds fun P hP=>?_)
  refine Rg.imp (P:=fun l t'=>∃ c:Bool,l=[bl c]∧Fr t t'∧(c=true↔j+1<b∧lt (el es1 (j+1)) (el es1 j)=false)) (Rg.hide fun P2 hP2=>?_) fun l t' h=>hP _ _ ?_
  ·by_cases hjb:j+1<b
   ·obtain ⟨A,hA⟩:∃ A,A=j+1:=⟨_,rfl⟩
    rw [← hA] at e9 hjb hP2
    have e:((A:Nat):Int) - 1=(j:Int):=by omega
    have r1:=hT1.1.cs.rd A (by omega)
    have r2:=hT1.1.cs.rd j (by omega)
    simp -implicitDefEqProofs (disch:=first|decide|omega) [hk3.e,e0,e2,e3,e9,e,r1,r2]
    refine H.dc hT1.1.cs.wf hT1.1.sm (hT1.1.mem (by omega)) (hT1.1.mem (by omega)) (by decide) (by decide) fun n s' hf hn=>?_
    simp -implicitDefEqProofs (disch:=first|decide|omega)
    refine Rg.ret (hP2 _ _ ⟨_,rfl,hf, ?_⟩)
    simp
    have hn':(0≤n)↔lt (el es1 A) (el es1 j)=false:=by
     rw [← Bool.not_eq_true,← hn];omega
    rw [hn']
    exact ⟨fun h=>⟨hjb,h⟩,fun h=>h.2⟩
   ·obtain ⟨A,hA⟩:∃ A,A=j+1:=⟨_,rfl⟩
    rw [← hA] at e9 hjb hP2
    simp -implicitDefEqProofs (disch:=first|decide|omega) [hk3.e,e0,e2,e3,e9]
    refine Rg.ret (hP2 _ _ ⟨_,rfl,.refl hT1.1.cs.wf, ?_⟩)
    simp;omega
  obtain ⟨c,rfl,hf,hc⟩:=h
  clear hP P
  have hT2:=hT1.fr hf
  refine Ru.cond rfl (fun h=>Ru.skip ?_) fun h=>Ru.exit ?_
  ·subst h
   obtain ⟨h1,h2⟩:=hc.1 rfl
   simp only [Then,Out]
   refine Ru.block (Ru.r1 fun P hP=>?_)
   simp -implicitDefEqProofs (disch:=first|decide|omega) [e9]
   refine Rg.ret (hP _ _ ⟨by repeat first | exact hk' | refine Keep.up (by rfl) ?_,j+1+1,by omega,by simp (disch:=first|decide|omega),by omega,by omega,hT2,hS1.snoc H.ord hi ?_⟩)
   exact (hT2.1.dis H).not (by omega) (by omega) (by omega) h2
  ·subst h
   have hn:¬ (j+1<b∧lt (el es1 (j+1)) (el es1 j)=false):=fun hh=>by have:=hc.2 hh;cases this
   simp only [Then,Out,if_true]
   refine ⟨by repeat first | exact hk3 | refine Keep.up (by rfl) ?_,by simp (disch:=first|decide|omega) [e10'],j+1,by simp (disch:=first|decide|omega) [e9],hi,hib,hT2,hS1,fun hh=>?_⟩
   cases hx:lt (el es1 (j+1)) (el es1 (j+1 - 1)) with
   | true=>rfl
   | false=>exact absurd ⟨hh,hx⟩ hn
 clear e9 e10 hi hib hT1 hS1 hk hk'
 obtain ⟨hk,e10,i,e9,hi,hib,hT1,hS1,hx⟩:=hM
 have hl1:=hT1.len
 refine Ru.seq (Ru.rs fun P hP=>?_)
 simp -implicitDefEqProofs (disch:=first|decide|omega) [hk.e,e2,e9]
 refine Rg.ret (hP _ _ ?_)
 clear hP P
 refine Ru.cond rfl (fun h=>?_) fun h=>Ru.skip ?_
 ·simp at h
  have:i=b:=by omega
  subst this
  exact fin _ s2 es1 tt true _ rfl (fun ρ s h=>h) hT1 (fun _=>hS1)
 simp at h
 simp only [Then]
 have hlt:i<b:=by omega
 clear h
 have hxi:=hx hlt
 obtain ⟨j,rfl⟩:∃ j,i=j+1:=⟨i - 1,by omega⟩
 simp only [Nat.add_sub_cancel] at hxi
 refine Ru.seq (Ru.rs fun P hP=>?_)
 simp -implicitDefEqProofs (disch:=first|decide|omega) [hk.e,e1,e2]
 refine Rg.ret (hP _ _ ?_)
 clear hP P
 refine Ru.cond rfl (fun h=>?_) fun h=>Ru.skip ?_
 ·exact fin _ s2 es1 ff false _ rfl (fun ρ s h=>h) hT1 (fun h=>by cases h)
 simp only [Then]
 clear h
 refine Ru.ds fun P hP=>?_
 refine sw1 q9 _ s2 es1 j P (by simp (disch:=first|decide|omega) [hk.e,e0]) (by simp (disch:=first|decide|omega) [e9]) hT1 (by omega) (hP _ _ ?_)
 clear hP P
 have hT2:=hT1.sw (i:=j+1) (j:=j) hb (by omega) (by omega) (by omega) (by omega)
 have hS2:Srt lt (sw es1 (j+1) j) a j:=fun p q h1 h2 h3=>by
  rw [el_sw (by omega) (by omega),el_sw (by omega) (by omega),if_neg (by omega),if_neg (by omega),if_neg (by omega),if_neg (by omega)]
  exact hS1 p q h1 h2 (by omega)
 generalize wr (wr s2 id (off+(j+1)) [el es1 j]) id (off+j) [el es1 (j+1)]=s3 at *
 generalize sw es1 (j+1) j=es3 at *
 have hl3:=hT2.len
 have hlb3:=hlb.mv hT2.2.2 hb
 refine Ru.at (fun ρ'=>Keep [q0,q1,q2,q3] ρ' ρ0∧ρ' q9=iv (j+1:Nat)∧ρ' q10=iv y) ⟨by repeat first | exact hk | refine Keep.up (by rfl) ?_,by simp (disch:=first|decide|omega) [e9],by simp (disch:=first|decide|omega) [e10]⟩ fun ρ3 hE=>?_
 clear e9 e10 hk
 obtain ⟨hk,e9,e10⟩:=hE
 clear hT1 hS1 hx hxi
 refine Ru.midQ (fun ρ' t=>Keep [q0,q1,q2,q3] ρ' ρ0∧ρ' q9=iv (j+1:Nat)∧ρ' q10=iv y∧∃ es4,To s0 id off m v lt es0 s es a b t es4∧Srt lt es4 a (j+1)) ?_ fun ρ4 s4 hM=>?_
 ·refine Ru.rs fun P hP=>?_
  simp -implicitDefEqProofs (disch:=first|decide|omega) [hk.e,e1,e9]
  refine Rg.ret (hP _ _ ?_)
  clear hP P
  refine Ru.cond rfl (fun h=>?_) fun h=>Ru.skip ?_
  rotate_left
  ·simp at h
   have:j=a:=by omega
   subst this
   exact ⟨by repeat first | exact hk | refine Keep.up (by rfl) ?_,by simp (disch:=first|decide|omega) [e9],by simp (disch:=first|decide|omega) [e10],es3,hT2,Srt.one lt es3 j⟩
  simp at h
  refine Ru.rs fun P hP=>?_
  simp -implicitDefEqProofs (disch:=first|decide|omega) [e9]
  refine Rg.ret (hP _ _ ?_)
  clear hP P
  refine Ru.at (fun ρ'=>Keep [q0,q1,q2,q3] ρ' ρ0∧ρ' q9=iv (j+1:Nat)∧ρ' q10=iv y∧ρ' q11=iv j) ⟨by repeat first | exact hk | refine Keep.up (by rfl) ?_,by simp (disch:=first|decide|omega) [e9],by simp (disch:=first|decide|omega) [e10],by simp (disch:=first|decide|omega)⟩ fun ρ4 hE=>?_
  clear e9 e10 hk
  obtain ⟨hk,e9,e10,e11⟩:=hE
  refine Ru.block (Ru.lp [q0,q1,q2,q3,q9,q10] (fun k:Nat=>k) (fun k ρ t=>ρ q11=iv k∧a≤k∧k≤j∧∃ es4,To s0 id off m v lt es0 s es a b t es4∧Ins lt es4 a j k) ⟨j,e11,by omega,Nat.le_refl _,es3,hT2,Ins.start hS2⟩ fun k ρ5 t hk' hI=>?_)
  clear e11
  obtain ⟨e11,hak,hkj,es4,hT4,hI4⟩:=hI
  have hk5:Keep [q0,q1,q2,q3] ρ5 ρ0:=Keep.via (by rfl) hk' hk
  have hl4:=hT4.len
  have fin4:∀ ρ,Keep [q0,q1,q2,q3] ρ ρ0→ρ q9=iv (j+1:Nat)→ρ q10=iv y→(k≤a∨(0<k∧a≤k - 1∧lt (el es4 (k - 1)) (el es4 k)=true))→∀ t',To s0 id off m v lt es0 s es a b t' es4→Keep [q0,q1,q2,q3] ρ ρ0∧ρ q9=iv (j+1:Nat)∧ρ q10=iv y∧∃ es4,To s0 id off m v lt es0 s es a b t' es4∧Srt lt es4 a (j+1):=fun ρ h1 h2 h3 h4 t' h5=>⟨h1,h2,h3,es4,h5,hI4.done H.ord hkj h4⟩
  refine Ru.seq (Ru.rs fun P hP=>?_)
  simp -implicitDefEqProofs (disch:=first|decide|omega) [e11]
  refine Rg.ret (hP _ _ ?_)
  clear hP P
  refine Ru.cond rfl (fun h=>Ru.skip ?_) fun h=>Ru.exit ?_
  rotate_left
  ·simp at h
   simp only [Then,Out,if_true]
   exact fin4 _ (by repeat first | exact hk5 | refine Keep.up (by rfl) ?_) (by simp (disch:=first|decide|omega) [(hk'.e q9 rfl).trans e9]) (by simp (disch:=first|decide|omega) [(hk'.e q10 rfl).trans e10]) (.inl (by omega)) _ hT4
  simp at h
  simp only [Then,Out]
  obtain ⟨l,rfl⟩:∃ l,k=l+1:=⟨k - 1,by omega⟩
  refine Ru.midQ (fun ρ t=>Keep [q0,q1,q2,q3,q9,q10] ρ ρ4∧ρ q11=iv (l+1:Nat)∧a≤l∧∃ es5,To s0 id off m v lt es0 s es a b t es5∧Ins lt es5 a j l) ?_ fun ρ6 s6 hM=>?_
  rotate_left
  ·obtain ⟨hk6,e11,hal,es5,hT5,hI5⟩:=hM
   refine Ru.r1 fun P hP=>?_
   simp -implicitDefEqProofs (disch:=first|decide|omega) [e11]
   exact Rg.ret (hP _ _ ⟨by repeat first | exact hk6 | refine Keep.up (by rfl) ?_,l,by omega,by simp (disch:=first|decide|omega),by omega,by omega,es5,hT5,hI5⟩)
  refine Ru.block (Ru.seq (Ru.ds fun P hP=>?_))
  refine cm1 q11 _ t es4 l P (by simp (disch:=first|decide|omega) [hk5.e,e0]) (by simp (disch:=first|decide|omega) [hk5.e,e3]) (by simp (disch:=first|decide|omega) [e11]) hT4 (by omega) fun c t' hf hc=>hP _ _ ?_
  clear hP P
  have hT5:=hT4.fr hf
  refine Ru.cond rfl (fun h=>Ru.exit ?_) fun h=>Ru.skip ?_
  ·subst h
   simp only [Then,Out,n4_eq,n5_eq,Nat.reduceEqDiff,if_true,if_false,reduceIte]
   have hnl:lt (el es4 (l+1)) (el es4 l)=false:=by
    cases hx:lt (el es4 (l+1)) (el es4 l) with
    | false=>rfl
    | true=>have:=hc.2 hx;cases this
   refine fin4 _ (by repeat first | exact hk5 | refine Keep.up (by rfl) ?_) (by simp (disch:=first|decide|omega) [(hk'.e q9 rfl).trans e9]) (by simp (disch:=first|decide|omega) [(hk'.e q10 rfl).trans e10]) ?_ _ hT5
   by_cases hla:l+1≤a
   ·exact .inl hla
   ·exact .inr ⟨by omega,by omega,(hT5.1.dis H).not (by omega) (by omega) (by omega) hnl⟩
  subst h
  simp only [Then]
  have hlt2:=hc.1 rfl
  have hal:a≤l:=by
   refine Classical.byContradiction fun hh=>?_
   have:l+1=a:=by omega
   rcases hlb.mv hT5.2.2 hb with h0 | h0
   ·omega
   ·have h1:=h0 a (Nat.le_refl _) (by omega)
    have h2:=H.ord.asym _ _ h1
    rw [← this] at h2
    simp only [Nat.add_sub_cancel] at h2
    rw [h2] at hlt2;cases hlt2
  refine Ru.d1 fun P hP=>?_
  refine sw1 q11 _ t' es4 l P (by simp (disch:=first|decide|omega) [hk5.e,e0]) (by simp (disch:=first|decide|omega) [e11]) hT5 (by omega) (hP _ _ ?_)
  simp only [Out,Then]
  exact ⟨by repeat first | exact hk' | refine Keep.up (by rfl) ?_,by simp (disch:=first|decide|omega) [e11],hal,_,hT5.sw (i:=l+1) (j:=l) hb (by omega) (by omega) (by omega) (by omega),hI4.step hal hkj (by omega) hlt2⟩
 clear e9 e10 hk hT2 hS2 hlb3 hl3
 obtain ⟨hk,e9,e10,es4,hT4,hS4⟩:=hM
 have hl4:=hT4.len
 refine Ru.rs fun P hP=>?_
 simp -implicitDefEqProofs (disch:=first|decide|omega) [hk.e,e2,e9]
 refine Rg.ret (hP _ _ ?_)
 clear hP P
 refine Ru.cond rfl (fun h=>?_) fun h=>Ru.skip ?_
 rotate_left
 ·exact ⟨by repeat first | exact hk | refine Keep.up (by rfl) ?_,by simp (disch:=first|decide|omega) [e10],j+1,es4,by simp (disch:=first|decide|omega) [e9],hi,hib,hT4,hS4⟩
 refine Ru.rs fun P hP=>?_
 simp -implicitDefEqProofs (disch:=first|decide|omega) [e9]
 refine Rg.ret (hP _ _ ?_)
 clear hP P
 refine Ru.at (fun ρ'=>Keep [q0,q1,q2,q3] ρ' ρ0∧ρ' q9=iv (j+1:Nat)∧ρ' q10=iv y∧ρ' q12=iv (j+1+1:Nat)) ⟨by repeat first | exact hk | refine Keep.up (by rfl) ?_,by simp (disch:=first|decide|omega) [e9],by simp (disch:=first|decide|omega) [e10],by simp (disch:=first|decide|omega)⟩ fun ρ5 hE=>?_
 clear e9 e10 hk
 obtain ⟨hk,e9,e10,e12⟩:=hE
 refine Ru.block (Ru.lp [q0,q1,q2,q3,q9,q10] (fun k:Nat=>b - k) (fun k ρ t=>ρ q12=iv (k+1:Nat)∧j+1≤k∧∃ es5,To s0 id off m v lt es0 s es a b t es5∧Srt lt es5 a (j+1)) ⟨j+1,e12,Nat.le_refl _,es4,hT4,hS4⟩ fun k ρ6 t hk' hI=>?_)
 clear e12 hT4 hS4 hl4
 obtain ⟨e12,hjk,es5,hT5,hS5⟩:=hI
 have hk6:Keep [q0,q1,q2,q3] ρ6 ρ0:=Keep.via (by rfl) hk' hk
 have hl5:=hT5.len
 obtain ⟨B,hB⟩:∃ B,B=k+1:=⟨_,rfl⟩
 refine Ru.seq (Ru.rs fun P hP=>?_)
 rw [← hB] at e12
 simp -implicitDefEqProofs (disch:=first|decide|omega) [hk6.e,e2,e12]
 refine Rg.ret (hP _ _ ?_)
 clear hP P
 refine Ru.cond rfl (fun h=>Ru.skip ?_) fun h=>Ru.exit ?_
 rotate_left
 ·simp only [Then,Out,if_true]
  exact ⟨by repeat first | exact hk6 | refine Keep.up (by rfl) ?_,by simp (disch:=first|decide|omega) [(hk'.e q10 rfl).trans e10],j+1,es5,by simp (disch:=first|decide|omega) [(hk'.e q9 rfl).trans e9],hi,hib,hT5,hS5⟩
 simp at h
 simp only [Then,Out]
 refine Ru.midQ (fun ρ t=>Keep [q0,q1,q2,q3,q9,q10] ρ ρ5∧ρ q12=iv B∧∃ es6,To s0 id off m v lt es0 s es a b t es6∧Srt lt es6 a (j+1)) ?_ fun ρ7 s7 hM=>?_
 rotate_left
 ·obtain ⟨hk7,e12,es6,hT6,hS6⟩:=hM
  refine Ru.r1 fun P hP=>?_
  simp -implicitDefEqProofs (disch:=first|decide|omega) [e12]
  exact Rg.ret (hP _ _ ⟨by repeat first | exact hk7 | refine Keep.up (by rfl) ?_,B,by omega,by simp (disch:=first|decide|omega),by omega,es6,hT6,hS6⟩)
 refine Ru.block (Ru.seq (Ru.ds fun P hP=>?_))
 refine cm1 q12 _ t es5 k P (by simp (disch:=first|decide|omega) [hk6.e,e0]) (by simp (disch:=first|decide|omega) [hk6.e,e3]) (by rw [← hB];simp (disch:=first|decide|omega) [e12]) hT5 (by omega) fun c t' hf hc=>hP _ _ ?_
 clear hP P
 have hT6:=hT5.fr hf
 refine Ru.cond rfl (fun h=>Ru.exit ?_) fun h=>Ru.skip ?_
 ·simp only [Then,Out,n6_eq,n7_eq,Nat.reduceEqDiff,if_true,if_false,reduceIte]
  exact ⟨by repeat first | exact hk6 | refine Keep.up (by rfl) ?_,by simp (disch:=first|decide|omega) [(hk'.e q10 rfl).trans e10],j+1,es5,by simp (disch:=first|decide|omega) [(hk'.e q9 rfl).trans e9],hi,hib,hT6,hS5⟩
 simp only [Then]
 refine Ru.d1 fun P hP=>?_
 refine sw1 q12 _ t' es5 k P (by simp (disch:=first|decide|omega) [hk6.e,e0]) (by rw [← hB];simp (disch:=first|decide|omega) [e12]) hT6 (by omega) (hP _ _ ?_)
 simp only [Out,Then]
 refine ⟨by repeat first | exact hk' | refine Keep.up (by rfl) ?_,by simp (disch:=first|decide|omega) [e12],_,hT6.sw (i:=k+1) (j:=k) hb (by omega) (by omega) (by omega) (by omega),hS5.congr fun p h1 h2=>?_⟩
 rw [el_sw (by omega) (by omega),if_neg (by omega),if_neg (by omega)]
end
section
theorem ushl0 {st:St} (a b:Nat) (c:CallK) (r:Ev) (K:V→St→R) (h:b≤64):xS true (uv a) (uv b) c r st K=K (uv (a * 2 ^ b % 18446744073709551616)) st:=by
 show iteB (intLt (b:Int) 0) (.fail 12) (intK .u64 (Int.mul (a:Int) (.ofNat (Nat.pow 2 (Nat.min ((b:Int).toNat) 64)))) fun v=>K v st)=_
 rw [intLt_b,decide_eq_false (by omega),iteB_false,intK_eq]
 have h1:Nat.min ((b:Int).toNat) 64=b:=by rw [Int.toNat_natCast];exact Nat.min_eq_left h
 rw [h1]
 have h2:Int.mul (a:Int) (.ofNat (Nat.pow 2 b))=((a * 2 ^ b:Nat):Int):=by show (a:Int) * ((2 ^ b:Nat):Int)=_;rw [Int.natCast_mul]
 rw [h2]
 have h3:IntKind.u64.wrap ((a * 2 ^ b:Nat):Int)=((a * 2 ^ b % 18446744073709551616:Nat):Int):=by
  unfold IntKind.wrap
  simp [IntKind.bits,IntKind.signed]
 rw [h3];rfl
theorem uxor0 (a b:Nat) (K:V→R) (h:a<18446744073709551616) (h':b<18446744073709551616):binK .xor (uv a) (uv b) K=K (uv (a ^^^ b)):=by
 show iteB (Nat.blt a 18446744073709551616) (iteB (Nat.blt b 18446744073709551616) (seqN (Nat.xor a b) fun r=>K (.sc (.int .u64 (.ofNat r)))) (.fail 18)) (.fail 18)=_
 have h1:Nat.blt a 18446744073709551616=true:=Nat.ble_eq_true_of_le h
 have h2:Nat.blt b 18446744073709551616=true:=Nat.ble_eq_true_of_le h'
 rw [h1,iteB_true,h2,iteB_true,seqN_eq];rfl
@[simp] theorem xC_ptr {st:St} (p o:Nat) (c:CallK) (r:Ev) (K:V→St→R):xC (.sc (.ptr p o)) c r st K=K (.sc (.ptr p o)) st:=rfl
variable {F:Nat→Option HF}{z0:PdN}{s t u s0:St}{id off m a b:Nat}{cap:Option Nat}{es es' es0:List S}{v:S}{lt:S→S→Bool}
theorem rev_ok (hz:PdAt F z0) (h0:On s0 id off m v lt es0 s es) (hb:b≤es.length) (hab:a≤b) :
  Ca (cF F) z0.rev [.sc (.slice id off es.length cap 1),iv a,iv b,.sc v] s (fun _ s'=>∃ es',To s0 id off m v lt es0 s es a b s' es'):=by
 have hlen:=h0.len
 refine Ca.ofU (hf:=hRev z0) hz.rev.1 hz.rev.2 [q0,q1,q2,q3] [] rfl rfl rfl fun Q hQ=>?_
 refine Ru.rs fun P hP=>Rg.ret (hP _ _ ?_)
 clear hP P
 refine Ru.rs fun P hP=>?_
 simp -implicitDefEqProofs (disch:=first|decide|omega)
 refine Rg.ret (hP _ _ ?_)
 clear hP P
 refine Ru.at (fun ρ=>ρ q0=.sc (.slice id off es.length cap 1)∧ρ q8=iv a∧ρ q9=iv ((b:Int) - 1)) ⟨rfl,rfl,rfl⟩ fun ρ0 hE=>?_
 obtain ⟨e0,e8,e9⟩:=hE
 refine Ru.block (Ru.lp [q0] (fun x:Nat×Nat=>x.2 - x.1) (fun x ρ t=>ρ q8=iv x.1∧ρ q9=iv ((x.2:Int) - 1)∧a≤x.1∧x.2≤b∧∃ es2,To s0 id off m v lt es0 s es a b t es2) ⟨(a,b),e8,e9,Nat.le_refl _,Nat.le_refl _,es,To.refl h0 a b⟩ fun x ρ t hk hI=>?_)
 clear e8 e9
 obtain ⟨i,J⟩:=x
 obtain ⟨e8,e9,hi,hJ,es2,hT2⟩:=hI
 simp only at e8 e9 hi hJ
 have hl2:=hT2.len
 refine Ru.seq (Ru.rs fun P hP=>?_)
 simp -implicitDefEqProofs (disch:=first|decide|omega) [e8,e9]
 refine Rg.ret (hP _ _ ?_)
 clear hP P
 refine Ru.cond rfl (fun h=>Ru.skip ?_) fun h=>Ru.exit ?_
 rotate_left
 ·simp only [Then,Out,if_true]
  exact (hQ _ _ (.nil0 ⟨es2,hT2⟩)).2
 simp at h
 simp only [Then,Out]
 obtain ⟨j,rfl⟩:∃ j,J=j+1:=⟨J - 1,by omega⟩
 have e:((j+1:Nat):Int) - 1=(j:Int):=by omega
 rw [e] at e9
 have hij:i<j:=by omega
 have hcs:=hT2.1.cs
 have r1:=hcs.rd i (by omega)
 have r2:=hcs.rd j (by omega)
 have d1:=hcs.d1 (i:=i) (by omega) (el es2 j)
 have d2:=(hcs.set (i:=i) (by omega) (el es2 j)).d1 (i:=j) (by simp;omega) (el es2 i)
 have hT3:=hT2.sw (i:=i) (j:=j) hb (by omega) (by omega) (by omega) (by omega)
 refine Ru.block (Ru.ds fun P hP=>?_)
 simp -implicitDefEqProofs (disch:=first|decide|omega | (apply okS_t;decide;(simp (decide:=true) <;> omega))) [hk.e,e0,e8,e9,r1,r2,d1,d2]
 refine Rg.ret (hP _ _ ?_)
 clear hP P
 refine Ru.rs fun P hP=>?_
 simp -implicitDefEqProofs (disch:=first|decide|omega) [e8]
 refine Rg.ret (hP _ _ ?_)
 clear hP P
 refine Ru.r1 fun P hP=>?_
 simp -implicitDefEqProofs (disch:=first|decide|omega) [e9]
 exact Rg.ret (hP _ _ ⟨by repeat first | exact hk | refine Keep.up (by rfl) ?_,(i+1,j),by simp;omega,by simp (disch:=first|decide|omega),by simp (disch:=first|decide|omega),by simp;omega,by simp;omega,_,hT3⟩)
theorem nxt_ok (hz:PdAt F z0) {p x:Nat} (hw:WfS s) (hb:Bx s p [us x]) (hx:x<18446744073709551616) :
  Ca (cF F) z0.nxt [.sc (.ptr p 0)] s (fun r s'=>Kp (some p) s s'∧∃ y,y<18446744073709551616∧r=uv y∧Bx s' p [us y]):=by
 refine Ca.of (hf:=hNxt z0) hz.nxt.1 hz.nxt.2 [q0] [.tmp q2] rfl rfl rfl fun Q hQ=>?_
 refine Ru.rs fun P hP=>Rg.ret (hP _ _ ?_)
 clear hP P
 refine Ru.at (fun ρ=>ρ q0=.sc (.ptr p 0)) rfl fun ρ e0=>?_
 have sx:∀ (t:St) (x y:Nat),Bx t p [us x]→WfS t→Bx (wr t p 0 [us y]) p [us y]∧Kp (some p) t (wr t p 0 [us y]):=fun t x y hb hw=>⟨hb.set (i:=0) (by simp) (us y),hb.kpw hw _⟩
 have dd:∀ (t:St) (x y:Nat),Bx t p [us x]→∀ (al lm sm hv:Nat) (ll:List LL) (ss:List (Nat×Nat)) (n0 bit pre:Nat) (K:V→Mk→St→R),okS ⟨al,lm,sm,hv,[],ll,ss⟩ n0 pre p=true →
   dS n0 ⟨al,lm,sm,hv,[],ll,ss⟩ bit pre t 1 (.sc (.ptr p 0)) (.sc (us y)) K=K undefV ⟨al,lm,sm ||| bit,hv,[],ll,(bit,p) :: ss⟩ (wr t p 0 [us y]):=fun t x y hb al lm sm hv ll ss n0 bit pre K h=>dS_ok hb.own (by simp) (us y) K h
 have line:∀ (ρ:Ev) (t:St) (x k:Nat) (sh:V→CallK→Ev→St→(V→St→R)→R) (P:List V→St→Prop),ρ q0=.sc (.ptr p 0)→Bx t p [us x]→x<18446744073709551616→k<18446744073709551616→(∀ c r K,sh (uv x) c r t K=K (uv k) t)→P [] (wr t p 0 [us (x ^^^ k)]) →
   Rg (cF F) (fun c K=>(fun (z:Nat) (m:Mk)=>xC (ρ q0) c ρ t fun v0 s=>dL z m n4 n3 s v0 fun v1 m s=>xC (ρ q0) c ρ s fun v2 s=>dL z m n32 n24 s v2 fun v3 m s=>sh v3 c ρ s fun v4 s=>binK .xor v1 v4 fun v5=>xC (ρ q0) c ρ s fun v6 s=>dS z m (nat_lit 512) (nat_lit 511) s n1 v6 v5 fun _ m s=>K [] s) t.next mk0) P:=by
  intro ρ t x k sh P e0 hb hx hk hsh hP
  have hb0:=hb.rd 0 _ rfl
  have x1:=fun K:V→R=>uxor0 x k K hx hk
  have d1:=dd t x (x ^^^ k) hb
  simp -implicitDefEqProofs (disch:=first|decide|omega | (apply okS_t;decide;(simp (decide:=true) <;> omega))) [e0,hb0,hsh,x1,d1]
  exact Rg.ret hP
 have lt64:∀ a b:Nat,a<18446744073709551616→b<18446744073709551616→a ^^^ b<18446744073709551616:=fun a b h1 h2=>Nat.xor_lt_two_pow (n:=64) h1 h2
 obtain ⟨m1,hm1⟩:∃ k,k=x * 2 ^ 13 % 18446744073709551616:=⟨_,rfl⟩
 have l1:m1<18446744073709551616:=by rw [hm1];exact Nat.mod_lt _ (by decide)
 refine Ru.ds fun P hP=>line ρ s x m1 (fun v c r s K=>xS true v U13 c r s K) P e0 hb hx l1 (fun c r K=>by rw [hm1];exact ushl0 x 13 c r K (by omega)) (hP _ _ ?_)
 clear hP P
 have hx1:=lt64 x m1 hx l1
 generalize x ^^^ m1=y1 at *
 obtain ⟨b1,k1⟩:=sx s x y1 hb hw
 generalize wr s p 0 [us y1]=t1 at *
 obtain ⟨m2,hm2⟩:∃ k,k=y1 / 2 ^ 7:=⟨_,rfl⟩
 have l2:m2<18446744073709551616:=by rw [hm2];exact Nat.lt_of_le_of_lt (Nat.div_le_self _ _) hx1
 refine Ru.ds fun P hP=>line _ t1 y1 m2 (fun v c r s K=>xS false v U7 c r s K) P (by simp (disch:=first|decide|omega) [e0]) b1 hx1 l2 (fun c r K=>by rw [hm2];exact ushr y1 7 c r K (by omega)) (hP _ _ ?_)
 clear hP P
 have hx2:=lt64 y1 m2 hx1 l2
 generalize y1 ^^^ m2=y2 at *
 obtain ⟨b2,k2⟩:=sx t1 y1 y2 b1 k1.wf
 generalize wr t1 p 0 [us y2]=t2 at *
 obtain ⟨m3,hm3⟩:∃ k,k=y2 * 2 ^ 17 % 18446744073709551616:=⟨_,rfl⟩
 have l3:m3<18446744073709551616:=by rw [hm3];exact Nat.mod_lt _ (by decide)
 refine Ru.ds fun P hP=>line _ t2 y2 m3 (fun v c r s K=>xS true v U17 c r s K) P (by simp (disch:=first|decide|omega) [e0]) b2 hx2 l3 (fun c r K=>by rw [hm3];exact ushl0 y2 17 c r K (by omega)) (hP _ _ ?_)
 clear hP P
 have hx3:=lt64 y2 m3 hx2 l3
 generalize y2 ^^^ m3=y3 at *
 obtain ⟨b3,k3⟩:=sx t2 y2 y3 b2 k2.wf
 generalize wr t2 p 0 [us y3]=t3 at *
 refine Ru.rs fun P hP=>?_
 simp -implicitDefEqProofs (disch:=first|decide|omega) [e0,b3.rd 0 _ rfl]
 exact Rg.ret (hP _ _ (Ru.ret (hQ _ _ (.one rfl ⟨(k1.trans k2).trans k3,y3,hx3,rfl,b3⟩))))
def len8:List Nat:=[0,1,2,2,3,3,3,3,4,4,4,4,4,4,4,4]
theorem len_ok (hz:PdAt F z0) {n:Nat} (hn:n<256):Ca (cF F) z0.len [uv n] s (fun r s'=>s'=s∧∃ k:Nat,r=iv k∧k≤8∧(0<n→2 ^ k≤2 * n)∧n<2 ^ k):=by
 have h64:Ca (cF F) z0.len64 [uv n] s (fun r s'=>s'=s∧∃ k:Nat,r=iv k∧k≤8∧(0<n→2 ^ k≤2 * n)∧n<2 ^ k):=by
  refine Ca.of (hf:=hLen64 z0) hz.len64.1 hz.len64.2 [q0] [.tmp q2] rfl rfl rfl fun Q hQ=>?_
  have hg:∀ (C:Nat) (K:V→R),n<C→binK .geq (uv n) (u6 C) K=K (bl false):=fun C K h=>by
   rw [u6_eq,ugeq,decide_eq_false (by omega)]
  have g1:∀ K:V→R,binK .geq (uv n) (u6 (nat_lit 4294967296)) K=K (bl false):=fun K=>hg _ K (Nat.lt_trans hn (by decide))
  have g2:∀ K:V→R,binK .geq (uv n) (u6 (nat_lit 65536)) K=K (bl false):=fun K=>hg _ K (Nat.lt_trans hn (by decide))
  have g3:∀ K:V→R,binK .geq (uv n) (u6 (nat_lit 256)) K=K (bl false):=fun K=>hg _ K hn
  refine Ru.rs fun P hP=>Rg.ret (hP _ _ ?_)
  clear hP P
  refine Ru.at (fun ρ=>ρ q0=uv n∧ρ q2=iv 0) ⟨rfl,rfl⟩ fun ρ hE=>?_
  obtain ⟨e0,e2⟩:=hE
  refine Ru.seq (Ru.rs fun P hP=>?_)
  refine (Rg.congr (X':=fun c K=>K [bl false] s) fun c K=>by show binK .geq (ρ q0) _ _=_;rw [e0];exact g1 _).mpr ?_
  refine Rg.ret (hP _ _ (Ru.cond rfl (fun h=>by cases h) fun h=>Ru.skip ?_))
  clear hP P h
  show Ru (cF F) _ _ _ _
  refine Ru.seq (Ru.rs fun P hP=>?_)
  refine (Rg.congr (X':=fun c K=>K [bl false] s) fun c K=>by show binK .geq (ρ q0) _ _=_;rw [e0];exact g2 _).mpr ?_
  refine Rg.ret (hP _ _ (Ru.cond rfl (fun h=>by cases h) fun h=>Ru.skip ?_))
  clear hP P h
  show Ru (cF F) _ _ _ _
  refine Ru.seq (Ru.rs fun P hP=>?_)
  refine (Rg.congr (X':=fun c K=>K [bl false] s) fun c K=>by show binK .geq (ρ q0) _ _=_;rw [e0];exact g3 _).mpr ?_
  refine Rg.ret (hP _ _ (Ru.cond rfl (fun h=>by cases h) fun h=>Ru.skip ?_))
  clear hP P h
  show Ru (cF F) _ _ _ _
  refine Ru.rs fun P hP=>?_
  generalize hT:ByteArray.mk _=T
  have hT':T.data.toList=List.flatten [[0],[1],List.replicate 2 2,List.replicate 4 3,List.replicate 8 4,List.replicate 16 5,List.replicate 32 6,List.replicate 64 7,List.replicate 128 8]:=by rw [← hT];decide +kernel
  clear hT
  have hb:∃ k:Nat,T.data.toList[n]?=some (UInt8.ofNat k)∧k≤8∧(0<n→2 ^ k≤2 * n)∧n<2 ^ k:=by
   have all:∀ m:_root_.Fin 256,∃ k:_root_.Fin 9,(List.flatten [[0],[1],List.replicate 2 2,List.replicate 4 3,List.replicate 8 4,List.replicate 16 5,List.replicate 32 6,List.replicate 64 7,List.replicate 128 8]:List UInt8)[m.val]?=some (UInt8.ofNat k.val)∧(0<m.val→2 ^ k.val≤2 * m.val)∧m.val<2 ^ k.val:=by decide +kernel
   obtain ⟨k,h1,h2,h3⟩:=all ⟨n,hn⟩
   exact ⟨k.val,by rw [hT'];exact h1,by have:=k.isLt;omega,h2,h3⟩
  obtain ⟨k,hk,hk8,h1,h2⟩:=hb
  have hbyte:∀ (c:CallK) (r:Ev) (K:V→St→R),h_op4_byteAt (.c (.sc (.lit (.string T)))) (.c (bv n)) c r s K=K (bv k) s:=fun c r K=>by
   show (match T.data.toList[n]? with | some b=>seqN b.toNat fun n=>K (.sc (.int .u8 (.ofNat n))) s | none=>.fail 80)=_
   rw [hk]
   show seqN (UInt8.ofNat k).toNat _=_
   rw [seqN_eq]
   have:(UInt8.ofNat k).toNat=k:=by rw [UInt8.toNat_ofNat'];omega
   rw [this];rfl
  have hc8:∀ K:V→R,cnv .u8 (uv n) K=K (bv n):=fun K=>by rw [cnv_u8,Nat.mod_eq_of_lt hn]
  have hci:∀ K:V→R,cnv .i64 (bv k) K=K (iv k):=fun K=>by
   show intK .i64 (k:Int) K=_
   rw [intK_eq,wrap_i64 (by omega)];rfl
  simp (disch:=first|decide|omega) only [updE_cons,updE_nil,upd_off,e0,e2,hc8,hbyte,hci,iadd]
  exact Rg.ret (hP _ _ (Ru.ret (hQ _ _ (.one rfl ⟨rfl,k,by simp,hk8,h1,h2⟩))))
 refine Ca.of (hf:=hLen z0) hz.len.1 hz.len.2 [q0] [.tmp q2] rfl rfl rfl fun Q hQ=>?_
 refine Ru.rs fun P hP=>Rg.ret (hP _ _ ?_)
 clear hP P
 refine Ru.seq (Ru.condF (Ru.skip ?_))
 refine Ru.rs fun P hP=>?_
 simp -implicitDefEqProofs (disch:=first|decide|omega)
 refine Rg.call h64 fun r s' h=>?_
 obtain ⟨rfl,h⟩:=h
 exact Rg.ret (hP _ _ (Ru.ret (hQ _ _ (.one rfl ⟨rfl,h⟩))))
theorem np_ok (hz:PdAt F z0) {n:Nat} (hn:n<256) (h0:0<n):Ca (cF F) z0.nP [iv n] s (fun r s'=>s'=s∧∃ k:Nat,r=uv k∧0<k∧k≤2 * n):=by
 refine Ca.of (hf:=hNP z0) hz.nP.1 hz.nP.2 [q0] [.tmp q2] rfl rfl rfl fun Q hQ=>?_
 refine Ru.rs fun P hP=>Rg.ret (hP _ _ ?_)
 clear hP P
 refine Ru.rs fun P hP=>?_
 simp -implicitDefEqProofs (disch:=first|decide|omega)
 refine Rg.call (len_ok hz hn) fun r s' h=>?_
 obtain ⟨rfl,k,rfl,hk8,h1,h2⟩:=h
 have hp:2 ^ k≤256:=Nat.pow_le_pow_right (by decide) hk8
 have e:∀ (c:CallK) (r:Ev) (K:V→St→R),xS true (uv 1) (iv k) c r s' K=K (uv (2 ^ k)) s':=fun c r K=>by
  have:=ushl0 (st:=s') 1 k c r K (by omega)
  rw [Nat.one_mul,Nat.mod_eq_of_lt (by omega)] at this
  exact this
 simp -implicitDefEqProofs (disch:=first|decide|omega) [e]
 exact Rg.ret (hP _ _ (Ru.ret (hQ _ _ (.one rfl ⟨rfl,2 ^ k,rfl,by omega,h1 h0⟩))))
end
section
variable {F:Nat→Option HF}{z0:PdN}{s t u s0:St}{id off m a b:Nat}{cap:Option Nat}{es es' es0:List S}{v:S}{lt:S→S→Bool}
theorem brk_ok (hz:PdAt F z0) (H:Cmp F s0 id v lt es0) (h0:On s0 id off m v lt es0 s es) (hab:a≤b) (hb:b≤es.length) (hn:b - a<256) :
  Ca (cF F) z0.brk [.sc (.slice id off es.length cap 1),iv a,iv b,.sc v] s (fun _ s'=>∃ es',To s0 id off m v lt es0 s es a b s' es'):=by
 have hlen:=h0.len
 obtain ⟨n,hnn⟩:∃ n,n=b - a:=⟨_,rfl⟩
 have eb:((b:Nat):Int) - (a:Int)=(n:Int):=by omega
 refine Ca.ofU (hf:=hBrk z0) hz.brk.1 hz.brk.2 [q0,q1,q2,q3] [] rfl rfl rfl fun Q hQ=>?_
 refine Ru.rs fun P hP=>?_
 simp -implicitDefEqProofs (disch:=first|decide|omega) [eb]
 refine Rg.ret (hP _ _ ?_)
 clear hP P
 refine Ru.rs fun P hP=>?_
 simp -implicitDefEqProofs (disch:=first|decide|omega)
 refine Rg.ret (hP _ _ ?_)
 clear hP P
 refine Ru.cond rfl (fun h=>?_) fun h=>Ru.skip ?_
 rotate_left
 ·exact (hQ _ _ (.nil0 ⟨es,To.refl h0 a b⟩)).2
 simp at h
 refine Ru.at (fun ρ=>ρ q0=.sc (.slice id off es.length cap 1)∧ρ q1=iv a∧ρ q8=iv n) ⟨rfl,rfl,rfl⟩ fun ρ0 hE=>?_
 obtain ⟨e0,e1,e8⟩:=hE
 refine Ru.rs fun P hP=>?_
 have hst:∀ K:St→R,sto (new s [us 0]) 1 (.sc (.ptr s.next 0)) (.sc (us n)) K=K (wr (new s [us 0]) s.next 0 [us n]):=fun K=>sto_sc K Own.new (by simp)
 simp -implicitDefEqProofs (disch:=first|decide|omega) [e8,hst]
 refine Rg.ret (hP _ _ ?_)
 clear hP P
 have hb1:Bx (wr (new s [us 0]) s.next 0 [us n]) s.next [us n]:=Bx.mk' rfl
 have hf1:Fr s (wr (new s [us 0]) s.next 0 [us n]):=fr_mk h0.cs.wf _ _
 generalize wr (new s [us 0]) s.next 0 [us n]=s1 at *
 have hT1:=(To.refl h0 a b).fr hf1
 refine Ru.rs fun P hP=>?_
 simp -implicitDefEqProofs (disch:=first|decide|omega) [e8]
 refine Rg.call (np_ok hz (by omega) (by omega)) fun r s' h=>?_
 obtain ⟨rfl,M,rfl,hM0,hM⟩:=h
 refine Rg.ret (hP _ _ ?_)
 clear hP P
 obtain ⟨n4,hn4⟩:∃ k,k=n / 4:=⟨_,rfl⟩
 have q4e:∀ K:V→R,binK .quo (iv n) (iv 4) K=K (iv n4):=fun K=>by rw [hn4];exact iquo0 n 4 K (by omega) (by omega)
 obtain ⟨I0',hI0⟩:∃ k,k=a+n4 * 2 - 1:=⟨_,rfl⟩
 obtain ⟨I1',hI1⟩:∃ k,k=a+n4 * 2+1:=⟨_,rfl⟩
 have hidx:((a:Nat):Int)+(n4:Int) * 2 - 1=(I0':Int):=by omega
 have hidx2:((a:Nat):Int)+(n4:Int) * 2+1=(I1':Int):=by omega
 refine Ru.rs fun P hP=>?_
 simp -implicitDefEqProofs (disch:=first|decide|omega) [e8,e1,q4e,hidx]
 refine Rg.ret (hP _ _ ?_)
 clear hP P
 refine Ru.at (fun ρ=>Keep [q0,q1,q8] ρ ρ0∧ρ q9=.sc (.ptr s.next 0)∧ρ q10=uv M∧ρ q11=iv I0') ⟨by repeat first | exact Keep.refl _ _ | refine Keep.up (by rfl) ?_,by simp (disch:=first|decide|omega),by simp (disch:=first|decide|omega),by simp (disch:=first|decide|omega)⟩ fun ρ1 hE=>?_
 obtain ⟨hk1,e9,e10,e11⟩:=hE
 refine Ru.block (Ru.lp [q0,q1,q8,q9,q10] (fun k:Nat=>I1'+1 - k) (fun k ρ t=>ρ q11=iv k∧I0'≤k∧k≤I1'+1∧(∃ y,y<18446744073709551616∧Bx t s.next [us y])∧∃ es2,To s0 id off m v lt es0 s es a b t es2) ⟨I0',e11,Nat.le_refl _,by omega,⟨n,by omega,hb1⟩,es,hT1⟩ fun k ρ t hk' hI=>?_)
 clear e11 hb1 hf1 hT1
 obtain ⟨e11,hk0,hk1',⟨y,hy,hby⟩,es2,hT2⟩:=hI
 have hk:Keep [q0,q1,q8] ρ ρ0:=Keep.via (by rfl) hk' hk1
 have hl2:=hT2.len
 refine Ru.seq (Ru.rs fun P hP=>?_)
 simp -implicitDefEqProofs (disch:=first|decide|omega) [hk.e,e8,e1,e11,q4e,hidx2]
 refine Rg.ret (hP _ _ ?_)
 clear hP P
 refine Ru.cond rfl (fun h=>Ru.skip ?_) fun h=>Ru.exit ?_
 rotate_left
 ·simp only [Then,Out,if_true]
  exact (hQ _ _ (.nil0 ⟨es2,hT2⟩)).2
 simp at h
 simp only [Then,Out]
 have hkI:k≤I1':=by omega
 refine Ru.midQ (fun ρ' t=>Keep [q0,q1,q8,q9,q10,q11] ρ' ρ∧(∃ y,y<18446744073709551616∧Bx t s.next [us y])∧∃ es2,To s0 id off m v lt es0 s es a b t es2) ?_ fun ρ' t hM=>?_
 rotate_left
 ·obtain ⟨hk2,hy2,hT3⟩:=hM
  refine Ru.r1 fun P hP=>?_
  simp -implicitDefEqProofs (disch:=first|decide|omega) [hk2.e,e11]
  have hkk:Keep [q0,q1,q8,q9,q10] ρ' ρ1:=Keep.via (by rfl) hk2 hk'
  exact Rg.ret (hP _ _ ⟨by repeat first | exact hkk | refine Keep.up (by rfl) ?_,k+1,by omega,by simp (disch:=first|decide|omega),by omega,by omega,hy2,hT3⟩)
 refine Ru.block (Ru.rs fun P hP=>?_)
 have e9':ρ q9=.sc (.ptr s.next 0):=(hk'.e q9 rfl).trans e9
 have e10':ρ q10=uv M:=(hk'.e q10 rfl).trans e10
 simp -implicitDefEqProofs (disch:=first|decide|omega) [e9',e10']
 refine Rg.call (nxt_ok hz hT2.1.cs.wf hby hy) fun r t3 h=>?_
 obtain ⟨k3,y3,hy3,rfl,hby3⟩:=h
 have hT3:=hT2.keep H h0 k3 (Nat.le_refl _)
 have hand:y3 &&& (M - 1)≤M - 1:=Nat.and_le_right
 obtain ⟨w,hw⟩:∃ w,w=y3 &&& (M - 1):=⟨_,rfl⟩
 rw [← hw] at hand
 have hand':∀ K:V→R,binK .and (uv y3) (uv (M - 1)) K=K (uv w):=fun K=>by rw [hw];exact uand y3 (M - 1) K hy3 (by omega)
 simp -implicitDefEqProofs (disch:=first|decide|omega) [hand']
 refine Rg.ret (hP _ _ ?_)
 clear hP P
 refine Ru.midQ (fun ρ' t=>Keep [q0,q1,q8,q9,q10,q11] ρ' ρ∧t=t3∧∃ o:Nat,ρ' q12=iv o∧o<n) ?_ fun ρ2 t2 hM=>?_
 ·refine Ru.rs fun P hP=>?_
  simp -implicitDefEqProofs (disch:=first|decide|omega) [hk.e,e8]
  refine Rg.ret (hP _ _ ?_)
  clear hP P
  refine Ru.cond rfl (fun h=>?_) fun h=>Ru.skip ?_
  ·simp at h
   obtain ⟨W,hW⟩:∃ W,W=w - n:=⟨_,rfl⟩
   have eW:((w:Nat):Int) - (n:Int)=(W:Int):=by omega
   refine Ru.r1 fun P hP=>?_
   simp -implicitDefEqProofs (disch:=first|decide|omega) [hk.e,e8,eW]
   exact Rg.ret (hP _ _ ⟨by repeat first | exact Keep.refl _ _ | refine Keep.up (by rfl) ?_,rfl,W,by simp (disch:=first|decide|omega),by omega⟩)
  ·simp at h
   exact ⟨by repeat first | exact Keep.refl _ _ | refine Keep.up (by rfl) ?_,rfl,w,by simp (disch:=first|decide|omega),by omega⟩
 obtain ⟨hk2,rfl,o,e12,ho⟩:=hM
 obtain ⟨A,hA⟩:∃ A,A=a+o:=⟨_,rfl⟩
 have ea:((a:Nat):Int)+(o:Int)=(A:Int):=by omega
 have hcs:=hT3.1.cs
 have r1:=hcs.rd A (by omega)
 have r2:=hcs.rd k (by omega)
 have d1:=hcs.d1 (i:=k) (by omega) (el es2 A)
 have d2:=(hcs.set (i:=k) (by omega) (el es2 A)).d1 (i:=A) (by simp;omega) (el es2 k)
 have hT4:=hT3.sw (i:=k) (j:=A) hb (by omega) (by omega) (by omega) (by omega)
 have hk2':Keep [q0,q1,q8] ρ2 ρ0:=Keep.via (by rfl) hk2 hk
 refine Ru.d1 fun P hP=>?_
 simp -implicitDefEqProofs (disch:=first|decide|omega | (apply okS_t;decide;(simp (decide:=true) <;> omega))) [hk2'.e,hk2.e,e0,e1,e11,e12,ea,r1,r2,d1,d2]
 refine Rg.ret (hP _ _ ⟨by repeat first | exact hk2 | refine Keep.up (by rfl) ?_,⟨y3,hy3,hby3.kp (hcs.kp2 (i:=k) (by omega) _ _) (fun he=>?_)⟩,_,hT4⟩)
 have:=h0.cs.lt
 cases he;omega
end
section
variable {F:Nat→Option HF}{z0:PdN}{s t u s0:St}{id off m a b p:Nat}{cap:Option Nat}{es es' es0:List S}{v:S}{lt:S→S→Bool}
theorem ord2_ok (hz:PdAt F z0) (H:Cmp F s0 id v lt es0) (h0:On s0 id off m v lt es0 s es) {i j x:Nat} (hi:i<es.length) (hj:j<es.length) (hb:Bx s p [is x]) (hx:x<4611686018427387904) :
  Ca (cF F) z0.ord2 [.sc (.slice id off es.length cap 1),iv i,iv j,.sc (.ptr p 0),.sc v] s (fun r s'=>∃ i' j' x':Nat,r=.tup [(false,[is i']),(false,[is j'])]∧((i'=i∧j'=j)∨(i'=j∧j'=i))∧Kp (some p) s s'∧Bx s' p [is x']∧x'≤x+1):=by
 have hlen:=h0.len
 refine Ca.of (hf:=hOrd2 z0) hz.ord2.1 hz.ord2.2 [q0,q1,q2,q3,q4] [.tmp q10,.tmp q11] rfl rfl rfl fun Q hQ=>?_
 refine Ru.rs fun P hP=>Rg.ret (hP _ _ ?_)
 clear hP P
 refine Ru.at (fun ρ=>ρ q0=.sc (.slice id off es.length cap 1)∧ρ q1=iv i∧ρ q2=iv j∧ρ q3=.sc (.ptr p 0)∧ρ q4=.sc v) ⟨rfl,rfl,rfl,rfl,rfl⟩ fun ρ hE=>?_
 obtain ⟨e0,e1,e2,e3,e4⟩:=hE
 have r1:=h0.cs.rd j hj
 have r2:=h0.cs.rd i hi
 refine Ru.seq (Ru.ds fun P hP=>?_)
 refine Rg.imp (P:=fun l t'=>∃ c:Bool,l=[bl c]∧Fr s t') (Rg.hide fun P2 hP2=>?_) fun l t' h=>hP _ _ ?_
 ·simp -implicitDefEqProofs (disch:=first|decide|omega) [e0,e1,e2,e4,r1,r2]
  refine H.dc h0.cs.wf h0.sm (h0.mem hj) (h0.mem hi) (by decide) (by decide) fun n s' hf hn=>?_
  simp -implicitDefEqProofs (disch:=first|decide|omega)
  exact Rg.ret (hP2 _ _ ⟨_,rfl,hf⟩)
 obtain ⟨c,rfl,hf⟩:=h
 clear hP P
 have hb1:=hb.fr hf
 refine Ru.cond rfl (fun h=>?_) fun h=>Ru.skip ?_
 ·have hst:=fun K:St→R=>hb1.sto (i:=0) (by simp) (is (x+1:Nat)) K
  refine Ru.rs fun P hP=>?_
  simp -implicitDefEqProofs (disch:=first|decide|omega) [e3,hb1.rd 0 _ rfl]
  have hst':∀ K:St→R,sto t' 1 (.sc (.ptr p 0)) (iv ((x:Int)+1)) K=K (wr t' p 0 [is (x+1:Nat)]):=fun K=>hst K
  simp -implicitDefEqProofs (disch:=first|decide|omega) [hst']
  refine Rg.ret (hP _ _ ?_)
  clear hP P
  refine Ru.rs fun P hP=>Rg.ret (hP _ _ (Ru.ret (hQ _ _ ?_)))
  exact .two (a:=is j) (b:=is i) (by simp (disch:=first|decide|omega) [e2]) (by simp (disch:=first|decide|omega) [e1]) ⟨j,i,x+1,rfl,.inr ⟨rfl,rfl⟩,(hf.kp _).trans (hb1.kpw hf.wf _),hb1.set (i:=0) (by simp) _,Nat.le_refl _⟩
 ·simp only [Then]
  refine Ru.rs fun P hP=>Rg.ret (hP _ _ (Ru.ret (hQ _ _ ?_)))
  exact .two (a:=is i) (b:=is j) (by simp (disch:=first|decide|omega) [e1]) (by simp (disch:=first|decide|omega) [e2]) ⟨i,j,x,rfl,.inl ⟨rfl,rfl⟩,hf.kp _,hb1,by omega⟩
theorem med_ok (hz:PdAt F z0) (H:Cmp F s0 id v lt es0) (h0:On s0 id off m v lt es0 s es) {i j k x:Nat} (hi:i<es.length) (hj:j<es.length) (hk:k<es.length) (hb:Bx s p [is x]) (hx:x<2305843009213693952) (hp:s0.next≤p) (hne:p≠id) :
  Ca (cF F) z0.med [.sc (.slice id off es.length cap 1),iv i,iv j,iv k,.sc (.ptr p 0),.sc v] s (fun r s'=>∃ r' x':Nat,r=iv r'∧(r'=i∨r'=j∨r'=k)∧Kp (some p) s s'∧Bx s' p [is x']∧x'≤x+3):=by
 refine Ca.of (hf:=hMed z0) hz.med.1 hz.med.2 [q0,q1,q2,q3,q4,q5] [.tmp q12] rfl rfl rfl fun Q hQ=>?_
 refine Ru.rs fun P hP=>Rg.ret (hP _ _ ?_)
 clear hP P
 refine Ru.rs fun P hP=>?_
 simp -implicitDefEqProofs (disch:=first|decide|omega)
 refine Rg.call (ord2_ok hz H h0 hi hj hb (by omega)) fun r s1 h=>?_
 obtain ⟨i1,j1,x1,rfl,c1,k1,b1,l1⟩:=h
 have h1:=h0.keep H k1 hp hne
 simp -implicitDefEqProofs (disch:=first|decide|omega)
 refine Rg.ret (hP _ _ ?_)
 clear hP P
 refine Ru.rs fun P hP=>?_
 simp -implicitDefEqProofs (disch:=first|decide|omega)
 refine Rg.call (ord2_ok hz H h1 (i:=j1) (j:=k) (by omega) hk b1 (by omega)) fun r s2 h=>?_
 obtain ⟨j2,k2,x2,rfl,c2,kk2,b2,l2⟩:=h
 have h2:=h1.keep H kk2 hp hne
 simp -implicitDefEqProofs (disch:=first|decide|omega)
 refine Rg.ret (hP _ _ ?_)
 clear hP P
 refine Ru.rs fun P hP=>?_
 simp -implicitDefEqProofs (disch:=first|decide|omega)
 refine Rg.call (ord2_ok hz H h2 (i:=i1) (j:=j2) (by omega) (by omega) b2 (by omega)) fun r s3 h=>?_
 obtain ⟨i3,j3,x3,rfl,c3,kk3,b3,l3⟩:=h
 simp -implicitDefEqProofs (disch:=first|decide|omega)
 refine Rg.ret (hP _ _ ?_)
 clear hP P
 refine Ru.rs fun P hP=>Rg.ret (hP _ _ (Ru.ret (hQ _ _ (.one (v:=iv j3) rfl ⟨j3,x3,rfl,by omega,(k1.trans kk2).trans kk3,b3,by omega⟩))))
theorem medA_ok (hz:PdAt F z0) (H:Cmp F s0 id v lt es0) (h0:On s0 id off m v lt es0 s es) {i x:Nat} (hi0:0<i) (hi:i+1<es.length) (hb:Bx s p [is x]) (hx:x<2305843009213693952) (hp:s0.next≤p) (hne:p≠id) :
  Ca (cF F) z0.medA [.sc (.slice id off es.length cap 1),iv i,.sc (.ptr p 0),.sc v] s (fun r s'=>∃ r' x':Nat,r=iv r'∧(i≤r'+1∧r'≤i+1)∧Kp (some p) s s'∧Bx s' p [is x']∧x'≤x+3):=by
 have hlen:=h0.len
 refine Ca.of (hf:=hMedA z0) hz.medA.1 hz.medA.2 [q0,q1,q2,q3] [.tmp q8] rfl rfl rfl fun Q hQ=>?_
 refine Ru.rs fun P hP=>Rg.ret (hP _ _ ?_)
 clear hP P
 obtain ⟨j,rfl⟩:∃ j,i=j+1:=⟨i - 1,by omega⟩
 have e:((j+1:Nat):Int) - 1=(j:Int):=by omega
 obtain ⟨A,hA⟩:∃ A,A=j+1:=⟨_,rfl⟩
 obtain ⟨B,hB⟩:∃ B,B=A+1:=⟨_,rfl⟩
 have eA:((A:Nat):Int) - 1=(j:Int):=by omega
 have eB:((A:Nat):Int)+1=(B:Int):=by omega
 rw [← hA]
 refine Ru.rs fun P hP=>?_
 simp -implicitDefEqProofs (disch:=first|decide|omega) [eA,eB]
 refine Rg.call (med_ok hz H h0 (i:=j) (j:=A) (k:=B) (by omega) (by omega) (by omega) hb hx hp hne) fun r s1 h=>?_
 obtain ⟨r',x',rfl,hr,k1,b1,l1⟩:=h
 exact Rg.ret (hP _ _ (Ru.ret (hQ _ _ (.one rfl ⟨r',x',rfl,by omega,k1,b1,l1⟩))))
theorem piv_ok (hz:PdAt F z0) (H:Cmp F s0 id v lt es0) (h0:On s0 id off m v lt es0 s es) (hab:a+12<b) (hb:b≤es.length) :
  Ca (cF F) z0.piv [.sc (.slice id off es.length cap 1),iv a,iv b,.sc v] s (fun r s'=>∃ r' h:Nat,r=.tup [(false,[is r']),(false,[is h])]∧a≤r'∧r'<b∧Fr s s'):=by
 have hlen:=h0.len
 obtain ⟨n,hn⟩:∃ n,n=b - a:=⟨_,rfl⟩
 have eb:((b:Nat):Int) - (a:Int)=(n:Int):=by omega
 obtain ⟨n4,hn4⟩:∃ k,k=n / 4:=⟨_,rfl⟩
 have q4e:∀ K:V→R,binK .quo (iv n) (iv 4) K=K (iv n4):=fun K=>by rw [hn4];exact iquo0 n 4 K (by omega) (by omega)
 obtain ⟨i1,hi1⟩:∃ k,k=a+n4 * 1:=⟨_,rfl⟩
 obtain ⟨i2,hi2⟩:∃ k,k=a+n4 * 2:=⟨_,rfl⟩
 obtain ⟨i3,hi3⟩:∃ k,k=a+n4 * 3:=⟨_,rfl⟩
 have E1:((a:Nat):Int)+(n4:Int)=(i1:Int):=by omega
 have E2:((a:Nat):Int)+(n4:Int) * 2=(i2:Int):=by omega
 have E3:((a:Nat):Int)+(n4:Int) * 3=(i3:Int):=by omega
 have hpn:s0.next≤s.next:=h0.sm.next
 have hne:s.next≠id:=fun he=>by have:=h0.cs.lt;omega
 refine Ca.of (hf:=hPiv z0) hz.piv.1 hz.piv.2 [q0,q1,q2,q3] [.tmp q8,.tmp q9] rfl rfl rfl fun Q hQ=>?_
 refine Ru.rs fun P hP=>Rg.ret (hP _ _ ?_)
 clear hP P
 refine Ru.rs fun P hP=>?_
 simp -implicitDefEqProofs (disch:=first|decide|omega) [eb]
 refine Rg.ret (hP _ _ ?_)
 clear hP P
 refine Ru.rs fun P hP=>?_
 simp -implicitDefEqProofs (disch:=first|decide|omega)
 refine Rg.ret (hP _ _ ?_)
 clear hP P
 have b1:Bx (new s [is 0]) s.next [is (0:Nat)]:=Bx.new
 have f1:Fr s (new s [is 0]):=(Fr.refl h0.cs.wf).new _
 generalize new s [is 0]=s1 at *
 refine Ru.rs fun P hP=>?_
 simp -implicitDefEqProofs (disch:=first|decide|omega) [q4e,E1]
 refine Rg.ret (hP _ _ ?_)
 clear hP P
 refine Ru.rs fun P hP=>?_
 simp -implicitDefEqProofs (disch:=first|decide|omega) [q4e,E2]
 refine Rg.ret (hP _ _ ?_)
 clear hP P
 refine Ru.rs fun P hP=>?_
 simp -implicitDefEqProofs (disch:=first|decide|omega) [q4e,E3]
 refine Rg.ret (hP _ _ ?_)
 clear hP P
 refine Ru.at (fun ρ=>ρ q0=.sc (.slice id off es.length cap 1)∧ρ q3=.sc v∧ρ q10=iv n∧ρ q11=.sc (.ptr s.next 0)∧ρ q12=iv i1∧ρ q13=iv i2∧ρ q14=iv i3) ⟨rfl,rfl,rfl,rfl,rfl,rfl,rfl⟩ fun ρ0 hE=>?_
 obtain ⟨e0,e3,e10,e11,e12,e13,e14⟩:=hE
 have hO1:=h0.fr f1
 refine Ru.mid (fun ρ t=>ρ q11=.sc (.ptr s.next 0)∧∃ x j:Nat,Bx t s.next [is x]∧ρ q13=iv j∧a≤j∧j<b∧Kp (some s.next) s1 t) ?_ fun ρ t hM=>?_
 ·refine Ru.rs fun P hP=>?_
  simp -implicitDefEqProofs (disch:=first|decide|omega) [e10]
  refine Rg.ret (hP _ _ ?_)
  clear hP P
  refine Ru.cond rfl (fun h=>?_) fun h=>(by first | (simp at h;done) | (simp at h;omega))
  refine Ru.mid (fun ρ t=>Keep [q0,q3,q11] ρ ρ0∧∃ x j1 j2 j3:Nat,Bx t s.next [is x]∧x≤9∧ρ q12=iv j1∧ρ q13=iv j2∧ρ q14=iv j3∧(a≤j1∧j1<b)∧(a≤j2∧j2<b)∧(a≤j3∧j3<b)∧Kp (some s.next) s1 t) ?_ fun ρ t hM=>?_
  rotate_left
  ·obtain ⟨hk,x,j1,j2,j3,bx,lx,k12,k13,k14,y1,y2,y3,kk⟩:=hM
   have hO2:=hO1.keep H kk hpn hne
   refine Ru.r1 fun P hP=>?_
   simp -implicitDefEqProofs (disch:=first|decide|omega) [hk.e,e0,e3,e11,k12,k13,k14]
   refine Rg.call (med_ok hz H hO2 (i:=j1) (j:=j2) (k:=j3) (by omega) (by omega) (by omega) bx (by omega) hpn hne) fun r t2 h=>?_
   obtain ⟨r',x',rfl,hr,k2,b2,l2⟩:=h
   refine Rg.ret (hP _ _ ⟨by simp (disch:=first|decide|omega) [hk.e,e11],x',r',b2,by simp (disch:=first|decide|omega),by omega,by omega,kk.trans k2⟩)
  refine Ru.rs fun P hP=>?_
  simp -implicitDefEqProofs (disch:=first|decide|omega) [e10]
  refine Rg.ret (hP _ _ ?_)
  clear hP P
  refine Ru.cond rfl (fun h=>?_) fun h=>Ru.skip ?_
  rotate_left
  ·exact ⟨by repeat first | exact Keep.refl _ _ | refine Keep.up (by rfl) ?_,0,i1,i2,i3,b1,by omega,by simp (disch:=first|decide|omega) [e12],by simp (disch:=first|decide|omega) [e13],by simp (disch:=first|decide|omega) [e14],by omega,by omega,by omega,(Fr.refl f1.wf).kp _⟩
  simp at h
  refine Ru.rs fun P hP=>?_
  simp -implicitDefEqProofs (disch:=first|decide|omega) [e0,e3,e11,e12]
  refine Rg.call (medA_ok hz H hO1 (i:=i1) (x:=0) (by omega) (by omega) b1 (by omega) hpn hne) fun r t2 h=>?_
  obtain ⟨r1,x1,rfl,hr1,k1,bx1,l1⟩:=h
  have hO2:=hO1.keep H k1 hpn hne
  refine Rg.ret (hP _ _ ?_)
  clear hP P
  refine Ru.rs fun P hP=>?_
  simp -implicitDefEqProofs (disch:=first|decide|omega) [e0,e3,e11,e13]
  refine Rg.call (medA_ok hz H hO2 (i:=i2) (x:=x1) (by omega) (by omega) bx1 (by omega) hpn hne) fun r t3 h=>?_
  obtain ⟨r2,x2,rfl,hr2,k2,bx2,l2⟩:=h
  have hO3:=hO2.keep H k2 hpn hne
  refine Rg.ret (hP _ _ ?_)
  clear hP P
  refine Ru.r1 fun P hP=>?_
  simp -implicitDefEqProofs (disch:=first|decide|omega) [e0,e3,e11,e14]
  refine Rg.call (medA_ok hz H hO3 (i:=i3) (x:=x2) (by omega) (by omega) bx2 (by omega) hpn hne) fun r t4 h=>?_
  obtain ⟨r3,x3,rfl,hr3,k3,bx3,l3⟩:=h
  refine Rg.ret (hP _ _ ⟨by repeat first | exact Keep.refl _ _ | refine Keep.up (by rfl) ?_,x3,r1,r2,r3,bx3,by omega,by simp (disch:=first|decide|omega),by simp (disch:=first|decide|omega),by simp (disch:=first|decide|omega),by omega,by omega,by omega,(k1.trans k2).trans k3⟩)
 obtain ⟨e11',x,j,bx,e13',hj1,hj2,kk⟩:=hM
 have hfr:Fr s t:=kk.fr f1 (fun i hi=>by cases hi;exact Nat.le_refl _) h0.cs.wf
 refine Ru.rs fun P hP=>?_
 simp -implicitDefEqProofs (disch:=first|decide|omega) [e11',bx.rd 0 _ rfl]
 refine Rg.ret (hP _ _ ?_)
 clear hP P
 have fin:∀ (ρ:Ev) (tr:V) (h:Nat) (Q':X→Ev→St→Prop),tr=iv h→(∀ ρ s,Q .ret ρ s→Q' .ret ρ s)→ρ q13=iv j→Ru (cF F) (.seq (.reg [q8,q9] fun c r s K=>K [(r q13),tr] s) .ret) ρ t Q':=by
  intro ρ tr h Q' htr hQ' k13
  subst htr
  exact Ru.rs fun P hP=>Rg.ret (hP _ _ (Ru.ret (hQ' _ _ (hQ _ _ (.two (a:=is j) (b:=is h) (by simp (disch:=first|decide|omega) [k13]) rfl ⟨j,h,rfl,hj1,hj2,hfr⟩)))))
 refine Ru.block (Ru.rs fun P hP=>?_)
 simp -implicitDefEqProofs (disch:=first|decide|omega)
 refine Rg.ret (hP _ _ (Ru.cond rfl (fun h=>?_) fun h=>?_))
 ·exact fin _ I1 1 _ rfl (fun ρ s h=>h) (by simp (disch:=first|decide|omega) [e13'])
 clear hP P
 refine Ru.rs fun P hP=>?_
 simp -implicitDefEqProofs (disch:=first|decide|omega)
 refine Rg.ret (hP _ _ (Ru.cond rfl (fun h=>?_) fun h=>?_))
 ·exact fin _ I2 2 _ rfl (fun ρ s h=>h) (by simp (disch:=first|decide|omega) [e13'])
 ·exact fin _ I0 0 _ rfl (fun ρ s h=>h) (by simp (disch:=first|decide|omega) [e13'])
end
section
variable {F:Nat→Option HF}{z0:PdN}{s t u s0:St}{id off m a b a' b' mid:Nat}{cap:Option Nat}{es es' es0:List S}{v:S}{lt:S→S→Bool}
structure Pl (lt:S→S→Bool) (es:List S) (a b a' b':Nat):Prop where
 l:Srt lt es a a'
 r:Srt lt es b' b
 lc:∀ p q,a≤p→p<a'→a'≤q→q<b→lt (el es p) (el es q)=true
 rc:∀ p q,a≤p→p<b'→b'≤q→q<b→lt (el es p) (el es q)=true
theorem Pl.start:Pl lt es a b a b:=⟨fun i j h1 h2 h3=>by omega,fun i j h1 h2 h3=>by omega,fun p q h1 h2=>by omega,fun p q h1 h2 h3 h4=>by omega⟩
theorem Pl.mv (h:Pl lt es a b a' b') (k:Mv es es' a' b') (h1:a≤a') (h2:a'≤b') (h3:b'≤b) (hl:b'≤es.length):Pl lt es' a b a' b':=by
 refine ⟨h.l.congr fun i _ hi=>k.off i (.inl hi),h.r.congr fun i hi _=>k.off i (.inr hi),fun p q p1 p2 p3 p4=>?_,fun p q p1 p2 p3 p4=>?_⟩
 ·rw [k.off p (.inl p2)]
  by_cases hq:q<b'
  ·exact k.rng hl (fun x=>lt (el es p) x=true) (fun i i1 i2=>h.lc p i p1 p2 i1 (by omega)) q p3 hq
  ·rw [k.off q (.inr (by omega))];exact h.lc p q p1 p2 p3 p4
 ·rw [k.off q (.inr p3)]
  by_cases hp:a'≤p
  ·exact k.rng hl (fun x=>lt x (el es q)=true) (fun i i1 i2=>h.rc i q (by omega) i2 p3 p4) p hp p2
  ·rw [k.off p (.inl (by omega))];exact h.rc p q p1 p2 p3 p4
theorem Pl.fin (h:Pl lt es a b a' b') (h1:a≤a') (h2:a'≤b') (h3:b'≤b) (hs:Srt lt es a' b'):Srt lt es a b:=fun i j hi hij hj=>by
 by_cases h4:j<a'
 ·exact h.l i j hi hij h4
 ·by_cases h5:i<a'
  ·exact h.lc i j hi h5 (by omega) hj
  ·by_cases h6:j<b'
   ·exact hs i j (by omega) hij h6
   ·by_cases h7:i<b'
    ·exact h.rc i j hi h7 (by omega) hj
    ·exact h.r i j (by omega) hij hj
theorem Pl.left (ho:Ltr lt) (h:Pl lt es a b a' b') (h1:a≤a') (h2:a'≤mid) (h3:mid<b') (h4:b'≤b) (hs:Srt lt es a' mid) (hl:∀ p,a'≤p→p<mid→lt (el es p) (el es mid)=true) (hr:∀ p,mid<p→p<b'→lt (el es mid) (el es p)=true):Pl lt es a b (mid+1) b':=by
 have up:∀ q,mid<q→q<b→lt (el es mid) (el es q)=true:=fun q q1 q2=>by
  by_cases hq:q<b'
  ·exact hr q q1 hq
  ·exact h.rc mid q (by omega) h3 (by omega) q2
 have le:∀ p q,a≤p→p≤mid→mid<q→q<b→lt (el es p) (el es q)=true:=fun p q p1 p2 p3 p4=>by
  by_cases hp:p<a'
  ·exact h.lc p q p1 hp (by omega) p4
  ·by_cases hpm:p=mid
   ·rw [hpm];exact up q p3 p4
   ·exact ho.trans _ _ _ (hl p (by omega) (by omega)) (up q p3 p4)
 refine ⟨fun i j i1 i2 i3=>?_,h.r,fun p q p1 p2 p3 p4=>le p q p1 (by omega) (by omega) p4,h.rc⟩
 by_cases hj:j=mid
 ·subst hj
  by_cases hi:i<a'
  ·exact h.lc i j i1 hi h2 (by omega)
  ·exact hl i (by omega) i2
 ·by_cases hi:i<a'
  ·by_cases hja:j<a'
   ·exact h.l i j i1 i2 hja
   ·exact h.lc i j i1 hi (by omega) (by omega)
  ·exact hs i j (by omega) i2 (by omega)
theorem Pl.right (ho:Ltr lt) (h:Pl lt es a b a' b') (h1:a≤a') (h2:a'≤mid) (h3:mid<b') (h4:b'≤b) (hs:Srt lt es (mid+1) b') (hl:∀ p,a'≤p→p<mid→lt (el es p) (el es mid)=true) (hr:∀ p,mid<p→p<b'→lt (el es mid) (el es p)=true):Pl lt es a b a' mid:=by
 have dn:∀ p,a≤p→p<mid→lt (el es p) (el es mid)=true:=fun p p1 p2=>by
  by_cases hp:p<a'
  ·exact h.lc p mid p1 hp h2 (by omega)
  ·exact hl p (by omega) p2
 refine ⟨h.l,fun i j i1 i2 i3=>?_,h.lc,fun p q p1 p2 p3 p4=>?_⟩
 ·by_cases hi:i=mid
  ·subst hi
   by_cases hj:j<b'
   ·exact hr j i2 hj
   ·exact h.rc i j (by omega) h3 (by omega) i3
  ·by_cases hj:j<b'
   ·exact hs i j (by omega) i2 hj
   ·by_cases hib:i<b'
    ·exact h.rc i j (by omega) hib (by omega) i3
    ·exact h.r i j (by omega) i2 i3
 ·by_cases hq:q=mid
  ·rw [hq];exact dn p p1 p2
  ·by_cases hqb:q<b'
   ·exact ho.trans _ _ _ (dn p p1 p2) (hr q (by omega) hqb)
   ·exact h.rc p q p1 (by omega) (by omega) p4
theorem Pl.lb (h:Pl lt es a b a' b') (h0:Lb lt es a b) (h1:a≤a') (h3:b'≤b):Lb lt es a' b':=by
 by_cases ha:a'=a
 ·subst ha
  rcases h0 with h0 | h0
  ·exact .inl h0
  ·exact .inr fun p p1 p2=>h0 p p1 (by omega)
 ·exact .inr fun p p1 p2=>h.lc (a' - 1) p (by omega) (by omega) p1 (by omega)
theorem pdq_ok (hz:PdAt F z0) (H:Cmp F s0 id v lt es0):∀ (N:Nat) {s:St}{es:List S}{a b L:Nat},On s0 id off m v lt es0 s es→a≤b→b≤es.length→b - a<N→N≤256→L≤64→Lb lt es a b →
  Ca (cF F) z0.pdq [.sc (.slice id off es.length cap 1),iv a,iv b,iv L,.sc v] s (fun _ s'=>∃ es',To s0 id off m v lt es0 s es a b s' es'∧Srt lt es' a b):=by
 intro N
 induction N with
 | zero=>intro s es a b L _ _ _ h;omega
 | succ N ih =>
 intro s es a b L h0 hab hb hN hN' hL hlb
 have hlen:=h0.len
 refine Ca.ofU (hf:=hPdq z0) hz.pdq.1 hz.pdq.2 [q0,q1,q2,q3,q4] [] rfl rfl rfl fun Q hQ=>?_
 refine Ru.rs fun P hP=>Rg.ret (hP _ _ ?_)
 clear hP P
 refine Ru.rs fun P hP=>Rg.ret (hP _ _ ?_)
 clear hP P
 refine Ru.at (fun ρ=>ρ q0=.sc (.slice id off es.length cap 1)∧ρ q4=.sc v∧ρ q1=iv a∧ρ q2=iv b∧ρ q3=iv L∧ρ q10=bl true∧ρ q11=bl true) ⟨rfl,rfl,rfl,rfl,rfl,rfl,rfl⟩ fun ρ0 hE=>?_
 obtain ⟨e0,e4,e1,e2,e3,e10,e11⟩:=hE
 refine Ru.block (Ru.lp [q0,q4] (fun x:Nat×Nat=>x.2 - x.1) (fun x ρ t=>ρ q1=iv x.1∧ρ q2=iv x.2∧(∃ L:Nat,ρ q3=iv L∧L≤64)∧(∃ c:Bool,ρ q10=bl c)∧(∃ c:Bool,ρ q11=bl c)∧(a≤x.1∧x.1≤x.2∧x.2≤b)∧∃ es2,To s0 id off m v lt es0 s es a b t es2∧Pl lt es2 a b x.1 x.2)
  ⟨(a,b),e1,e2,⟨L,e3,hL⟩,⟨true,e10⟩,⟨true,e11⟩,⟨Nat.le_refl _,hab,Nat.le_refl _⟩,es,To.refl h0 a b,Pl.start⟩ fun x ρ t hk hI=>?_)
 clear e1 e2 e3 e10 e11 hL L
 obtain ⟨a',b'⟩:=x
 obtain ⟨e1,e2,⟨L,e3,hL⟩,⟨c10,e10⟩,⟨c11,e11⟩,⟨ha',hab',hb'⟩,es1,hT1,hP1⟩:=hI
 simp only at e1 e2 ha' hab' hb' hP1
 have hl1:=hT1.len
 obtain ⟨n,hn⟩:∃ n,n=b' - a':=⟨_,rfl⟩
 have eb:((b':Nat):Int) - (a':Int)=(n:Int):=by omega
 have e0':ρ q0=.sc (.slice id off es1.length cap 1):=by rw [hl1];exact (hk.e q0 rfl).trans e0
 have e4':ρ q4=.sc v:=(hk.e q4 rfl).trans e4
 have done:∀ (s2:St) (es2:List S),To s0 id off m v lt es0 t es1 a' b' s2 es2→Srt lt es2 a' b'→∃ es',To s0 id off m v lt es0 s es a b s2 es'∧Srt lt es' a b:=fun s2 es2 h1 h2 =>
  ⟨es2,hT1.then (h1.sub ha' hb'),(hP1.mv h1.2.2 ha' hab' hb' (by omega)).fin ha' hab' hb' h2⟩
 refine Ru.block (Ru.rs fun P hP=>?_)
 simp -implicitDefEqProofs (disch:=first|decide|omega) [e1,e2,eb]
 refine Rg.ret (hP _ _ ?_)
 clear hP P
 refine Ru.at (fun ρ'=>Keep [q0,q4] ρ' ρ0∧ρ' q0=.sc (.slice id off es1.length cap 1)∧ρ' q4=.sc v∧ρ' q1=iv a'∧ρ' q2=iv b'∧ρ' q3=iv L∧ρ' q10=bl c10∧ρ' q11=bl c11∧ρ' q12=iv n) ⟨by repeat first | exact hk | refine Keep.up (by rfl) ?_,e0',e4',e1,e2,e3,e10,e11,by simp (disch:=first|decide|omega)⟩ fun ρ1 hE=>?_
 clear e1 e2 e3 e10 e11 e0' e4' hk ρ e0 e4
 obtain ⟨hk,e0,e4,e1,e2,e3,e10,e11,e12⟩:=hE
 refine Ru.seq (Ru.rs fun P hP=>?_)
 simp -implicitDefEqProofs (disch:=first|decide|omega) [e12]
 refine Rg.ret (hP _ _ ?_)
 clear hP P
 refine Ru.cond rfl (fun h=>?_) fun h=>Ru.skip ?_
 ·refine Ru.rs fun P hP=>?_
  simp -implicitDefEqProofs (disch:=first|decide|omega) [e0,e1,e2,e4]
  refine Rg.call (ins_ok hz H hT1.1 hab' (by omega)) fun r s2 h=>?_
  obtain ⟨es2,h1,h2⟩:=h
  refine Rg.ret (hP _ _ (Ru.ret ?_))
  exact (hQ _ _ (.nil0 (done s2 es2 h1 h2))).1
 simp at h
 simp only [Then]
 have hn12:12<n:=by omega
 refine Ru.seq (Ru.rs fun P hP=>?_)
 simp -implicitDefEqProofs (disch:=first|decide|omega) [e3]
 refine Rg.ret (hP _ _ ?_)
 clear hP P
 refine Ru.cond rfl (fun h=>?_) fun h=>Ru.skip ?_
 ·refine Ru.rs fun P hP=>?_
  simp -implicitDefEqProofs (disch:=first|decide|omega) [e0,e1,e2,e4]
  refine Rg.call (heap_ok hz H hT1.1 (by omega) (by omega)) fun r s2 h=>?_
  obtain ⟨es2,h1,h2⟩:=h
  refine Rg.ret (hP _ _ (Ru.ret ?_))
  exact (hQ _ _ (.nil0 (done s2 es2 h1 h2))).1
 rename_i hL0
 simp at h
 simp only [Then]
 have hL0:0<L:=by omega
 refine Ru.mid (fun ρ' t2=>Keep [q0,q1,q2,q4,q10,q11,q12] ρ' ρ1∧∃ (L2:Nat) (es2:List S),ρ' q3=iv L2∧L2≤64∧To s0 id off m v lt es0 t es1 a' b' t2 es2) ?_ fun ρ2 t2 hM=>?_
 ·refine Ru.rs fun P hP=>?_
  simp -implicitDefEqProofs (disch:=first|decide|omega) [e10]
  refine Rg.ret (hP _ _ ?_)
  clear hP P
  refine Ru.cond rfl (fun h=>?_) fun h=>Ru.skip ?_
  ·refine Ru.rs fun P hP=>?_
   simp -implicitDefEqProofs (disch:=first|decide|omega) [e0,e1,e2,e4]
   refine Rg.call (brk_ok hz H hT1.1 hab' (by omega) (by omega)) fun r s2 h=>?_
   obtain ⟨es2,h1⟩:=h
   refine Rg.ret (hP _ _ ?_)
   clear hP P
   obtain ⟨L1,hL1⟩:∃ k,k=L - 1:=⟨_,rfl⟩
   have eL:((L:Nat):Int) - 1=(L1:Int):=by omega
   refine Ru.r1 fun P hP=>?_
   simp -implicitDefEqProofs (disch:=first|decide|omega) [e3,eL]
   exact Rg.ret (hP _ _ ⟨by repeat first | exact Keep.refl _ _ | refine Keep.up (by rfl) ?_,L1,es2,by simp (disch:=first|decide|omega),by omega,h1⟩)
  ·exact ⟨by repeat first | exact Keep.refl _ _ | refine Keep.up (by rfl) ?_,L,es1,by simp (disch:=first|decide|omega) [e3],hL,To.refl hT1.1 a' b'⟩
 obtain ⟨hk2,L2,es2,f3,hL2,hT2⟩:=hM
 have hl2:=hT2.len
 have f0:ρ2 q0=.sc (.slice id off es2.length cap 1):=by rw [hl2];exact (hk2.e q0 rfl).trans e0
 have f1:=(hk2.e q1 rfl).trans e1
 have f2:=(hk2.e q2 rfl).trans e2
 have f4:=(hk2.e q4 rfl).trans e4
 refine Ru.rs fun P hP=>?_
 simp -implicitDefEqProofs (disch:=first|decide|omega) [f0,f1,f2,f4]
 refine Rg.call (piv_ok hz H hT2.1 (by omega) (by omega)) fun r t3 h=>?_
 obtain ⟨pv,hint,rfl,hpv1,hpv2,hf3⟩:=h
 have hT3:=hT2.fr hf3
 simp -implicitDefEqProofs (disch:=first|decide|omega)
 refine Rg.ret (hP _ _ ?_)
 clear hP P
 refine Ru.mid (fun ρ' t4=>Keep [q0,q1,q2,q3,q4,q10,q11,q12] ρ' ρ2∧∃ (pv hint:Nat) (es2:List S),ρ' q13=iv pv∧ρ' q14=iv hint∧a'≤pv∧pv<b'∧To s0 id off m v lt es0 t es1 a' b' t4 es2) ?_ fun ρ3 t4 hM=>?_
 ·refine Ru.rs fun P hP=>?_
  simp -implicitDefEqProofs (disch:=first|decide|omega)
  refine Rg.ret (hP _ _ ?_)
  clear hP P
  refine Ru.cond rfl (fun h=>?_) fun h=>Ru.skip ?_
  ·refine Ru.rs fun P hP=>?_
   simp -implicitDefEqProofs (disch:=first|decide|omega) [f0,f1,f2,f4]
   refine Rg.call (rev_ok hz hT3.1 (by omega) hab') fun r s2 h=>?_
   obtain ⟨es3,h1⟩:=h
   refine Rg.ret (hP _ _ ?_)
   clear hP P
   obtain ⟨p1,hp1⟩:∃ k,k=(b' - 1) - (pv - a'):=⟨_,rfl⟩
   have ep:((b':Nat):Int) - 1 - ((pv:Int) - (a':Int))=(p1:Int):=by omega
   refine Ru.rs fun P hP=>?_
   simp -implicitDefEqProofs (disch:=first|decide|omega) [f1,f2,ep]
   refine Rg.ret (hP _ _ ?_)
   clear hP P
   refine Ru.r1 fun P hP=>Rg.ret (hP _ _ ⟨by repeat first | exact Keep.refl _ _ | refine Keep.up (by rfl) ?_,p1,1,es3,by simp (disch:=first|decide|omega),rfl,by omega,by omega,hT3.then h1⟩)
  ·exact ⟨by repeat first | exact Keep.refl _ _ | refine Keep.up (by rfl) ?_,pv,hint,es2,by simp (disch:=first|decide|omega),by simp (disch:=first|decide|omega),hpv1,hpv2,hT3⟩
 clear hpv1 hpv2 hf3 hT3 f0 f1 f2 f4 hl2 hT2
 obtain ⟨hk3,pv,hint,es3,f13,f14,hpv1,hpv2,hT3⟩:=hM
 have hl3:=hT3.len
 have hk23:Keep [q0,q1,q2,q4,q10,q11,q12] ρ3 ρ1:=Keep.via (by rfl) hk3 hk2
 have f0:ρ3 q0=.sc (.slice id off es3.length cap 1):=by rw [hl3];exact (hk23.e q0 rfl).trans e0
 have f1:=(hk23.e q1 rfl).trans e1
 have f2:=(hk23.e q2 rfl).trans e2
 have f4:=(hk23.e q4 rfl).trans e4
 have f10:=(hk23.e q10 rfl).trans e10
 have f11:=(hk23.e q11 rfl).trans e11
 have hP3:=hP1.mv hT3.2.2 ha' hab' hb' (by omega)
 have hlb1:Lb lt es1 a b:=hlb.mv hT1.2.2 hb
 have hlb3:Lb lt es3 a' b':=(hP1.lb hlb1 ha' hb').mv hT3.2.2 (by omega)
 refine Ru.midQ (fun ρ' t5=>Keep [q0,q1,q2,q3,q4,q10,q11,q12,q13] ρ' ρ3∧∃ es2:List S,To s0 id off m v lt es0 t es1 a' b' t5 es2) ?_ fun ρ4 t5 hM=>?_
 ·refine Ru.rs fun P hP=>?_
  refine Rg.imp (P:=fun l t'=>∃ c:Bool,l=[bl c]∧t'=t4) (Rg.hide fun P2 hP2=>?_) fun l t' h=>hP _ _ ?_
  ·cases c10 <;> cases c11 <;> simp -implicitDefEqProofs (disch:=first|decide|omega) [f10,f11,f14] <;> exact Rg.ret (hP2 _ _ ⟨_,rfl,rfl⟩)
  obtain ⟨c,rfl,rfl⟩:=h
  clear hP P
  refine Ru.cond rfl (fun h=>?_) fun h=>Ru.skip ?_
  rotate_left
  ·exact ⟨by repeat first | exact Keep.refl _ _ | refine Keep.up (by rfl) ?_,es3,hT3⟩
  refine Ru.rs fun P hP=>?_
  simp -implicitDefEqProofs (disch:=first|decide|omega) [f0,f1,f2,f4]
  refine Rg.call (pins_ok hz H hT3.1 (by omega) (by omega) hlb3) fun r s2 h=>?_
  obtain ⟨c2,es4,rfl,h1,h2⟩:=h
  refine Rg.ret (hP _ _ ?_)
  clear hP P
  refine Ru.cond rfl (fun h=>Ru.ret ?_) fun h=>Ru.skip ?_
  ·subst h
   exact (hQ _ _ (.nil0 (done s2 es4 (hT3.then h1) (h2 rfl)))).1
  ·exact ⟨by repeat first | exact Keep.refl _ _ | refine Keep.up (by rfl) ?_,es4,hT3.then h1⟩
 clear hT3 hl3 f0 hP3 hlb3
 obtain ⟨hk4,es4,hT4⟩:=hM
 have hl4:=hT4.len
 have hk24:Keep [q0,q1,q2,q4,q10,q11,q12] ρ4 ρ1:=Keep.via (by rfl) hk4 hk23
 have g0:ρ4 q0=.sc (.slice id off es4.length cap 1):=by rw [hl4];exact (hk24.e q0 rfl).trans e0
 have g1:=(hk24.e q1 rfl).trans e1
 have g2:=(hk24.e q2 rfl).trans e2
 have g4:=(hk24.e q4 rfl).trans e4
 have g13:=(hk4.e q13 rfl).trans f13
 have hP4:=hP1.mv hT4.2.2 ha' hab' hb' (by omega)
 have hlb4:Lb lt es4 a' b':=(hP1.lb hlb1 ha' hb').mv hT4.2.2 (by omega)
 refine Ru.mid (fun ρ' t6=>Keep [q0,q1,q2,q3,q4,q10,q11,q12,q13] ρ' ρ4∧Fr t5 t6) ?_ fun ρ5 t6 hM=>?_
 ·refine Ru.ds fun P hP=>?_
  refine Rg.imp (P:=fun l t'=>l=[bl false]∧Fr t5 t') (Rg.hide fun P2 hP2=>?_) fun l t' h=>hP _ _ ?_
  ·by_cases ha0:0<a'
   ·obtain ⟨j,hj⟩:∃ j,j=a' - 1:=⟨_,rfl⟩
    have e:((a':Nat):Int) - 1=(j:Int):=by omega
    have r1:=hT4.1.cs.rd j (by omega)
    have r2:=hT4.1.cs.rd pv (by omega)
    simp -implicitDefEqProofs (disch:=first|decide|omega) [g0,g1,g4,g13,e,r1,r2]
    refine H.dc hT4.1.cs.wf hT4.1.sm (hT4.1.mem (by omega)) (hT4.1.mem (by omega)) (by decide) (by decide) fun n s' hf hn=>?_
    have hlt:lt (el es4 j) (el es4 pv)=true:=by
     rcases hlb4 with h0 | h0
     ·omega
     ·rw [hj];exact h0 pv hpv1 hpv2
    have hneg:n<0:=hn.2 hlt
    simp -implicitDefEqProofs (disch:=first|decide|omega)
    exact Rg.ret (hP2 _ _ ⟨by simp (disch:=omega),hf⟩)
   ·simp -implicitDefEqProofs (disch:=first|decide|omega) [g0,g1,g4,g13]
    exact Rg.ret (hP2 _ _ ⟨rfl,.refl hT4.1.cs.wf⟩)
  obtain ⟨rfl,hf⟩:=h
  clear hP P
  refine Ru.cond rfl (fun h=>by cases h) fun h=>Ru.skip ?_
  exact ⟨by repeat first | exact Keep.refl _ _ | refine Keep.up (by rfl) ?_,hf⟩
 obtain ⟨hk5,hf6⟩:=hM
 have hT6:=hT4.fr hf6
 have i0:=(hk5.e q0 rfl).trans g0
 have i1:=(hk5.e q1 rfl).trans g1
 have i2:=(hk5.e q2 rfl).trans g2
 have i4:=(hk5.e q4 rfl).trans g4
 have i13:=(hk5.e q13 rfl).trans g13
 have hk25:Keep [q0,q1,q2,q4,q10,q11,q12] ρ5 ρ1:=Keep.via (by rfl) hk5 hk24
 have i12:=(hk25.e q12 rfl).trans e12
 have i3:ρ5 q3=iv L2:=by rw [hk5.e q3 rfl,hk4.e q3 rfl,hk3.e q3 rfl];exact f3
 refine Ru.rs fun P hP=>?_
 simp -implicitDefEqProofs (disch:=first|decide|omega) [i0,i1,i2,i4,i13]
 refine Rg.call (part_ok hz H hT6.1 hpv1 hpv2 (by omega)) fun r t7 h=>?_
 obtain ⟨mid,al,es7,rfl,hm1,hm2,hT7',hpl,hpr⟩:=h
 have hT7:=hT6.then hT7'
 have hl7:=hT7.len
 simp -implicitDefEqProofs (disch:=first|decide|omega)
 refine Rg.ret (hP _ _ ?_)
 clear hP P
 have hd7:=hT7.1.dis H
 have hpr':∀ p,mid<p→p<b'→lt (el es7 mid) (el es7 p)=true:=fun p p1 p2=>hd7.not (by omega) (by omega) (by omega) (hpr p p1 p2)
 have hP7:=hP1.mv hT7.2.2 ha' hab' hb' (by omega)
 have hlb7:Lb lt es7 a' b':=(hP1.lb hlb1 ha' hb').mv hT7.2.2 (by omega)
 refine Ru.rs fun P hP=>Rg.ret (hP _ _ ?_)
 clear hP P
 refine Ru.at (fun ρ'=>Keep [q0,q1,q2,q3,q4,q12] ρ' ρ5∧ρ' q16=iv mid∧ρ' q11=bl al) ⟨by repeat first | exact Keep.refl _ _ | refine Keep.up (by rfl) ?_,by simp (disch:=first|decide|omega),by simp (disch:=first|decide|omega)⟩ fun ρ6 hE=>?_
 obtain ⟨hk6,j16,j11⟩:=hE
 have j0:ρ6 q0=.sc (.slice id off es7.length cap 1):=by rw [hk6.e q0 rfl,i0,hl4,hl7]
 have j1:=(hk6.e q1 rfl).trans i1
 have j2:=(hk6.e q2 rfl).trans i2
 have j3:=(hk6.e q3 rfl).trans i3
 have j4:=(hk6.e q4 rfl).trans i4
 have j12:=(hk6.e q12 rfl).trans i12
 have hk06:Keep [q0,q4] ρ6 ρ0:=Keep.via (l:=[q0,q4]) (by rfl) hk6 (Keep.via (l:=[q0,q4]) (by rfl) hk25 hk)
 obtain ⟨dl,hdl⟩:∃ k,k=mid - a':=⟨_,rfl⟩
 obtain ⟨dr,hdr⟩:∃ k,k=b' - mid:=⟨_,rfl⟩
 obtain ⟨n8,hn8⟩:∃ k,k=n / 8:=⟨_,rfl⟩
 have el1:((mid:Nat):Int) - (a':Int)=(dl:Int):=by omega
 have er1:((b':Nat):Int) - (mid:Int)=(dr:Int):=by omega
 have q8e:∀ K:V→R,binK .quo (iv n) (iv 8) K=K (iv n8):=fun K=>by rw [hn8];exact iquo0 n 8 K (by omega) (by omega)
 obtain ⟨m1,hmm⟩:∃ k,k=mid+1:=⟨_,rfl⟩
 have em:((mid:Nat):Int)+1=(m1:Int):=by omega
 refine Ru.rs fun P hP=>?_
 simp -implicitDefEqProofs (disch:=first|decide|omega) [j1,j2,j16,el1,er1]
 refine Rg.ret (hP _ _ ?_)
 clear hP P
 refine Ru.rs fun P hP=>?_
 simp -implicitDefEqProofs (disch:=first|decide|omega) [j12,q8e]
 refine Rg.ret (hP _ _ ?_)
 clear hP P
 refine Ru.rs fun P hP=>?_
 simp -implicitDefEqProofs (disch:=first|decide|omega)
 refine Rg.ret (hP _ _ ?_)
 clear hP P
 refine Ru.cond rfl (fun h=>?_) fun h=>?_
 ·
  refine Ru.rs fun P hP=>?_
  simp -implicitDefEqProofs (disch:=first|decide|omega)
  refine Rg.ret (hP _ _ ?_)
  clear hP P
  refine Ru.rs fun P hP=>?_
  simp -implicitDefEqProofs (disch:=first|decide|omega) [j0,j1,j3,j4,j16]
  refine Rg.call (ih (a:=a') (b:=mid) (L:=L2) hT7.1 hm1 (by omega) (by omega) (by omega) hL2 (by rcases hlb7 with h | h;exact .inl h;exact .inr fun p p1 p2=>h p p1 (by omega))) fun r t8 h=>?_
  obtain ⟨es8,hT8,hS8⟩:=h
  refine Rg.ret (hP _ _ ?_)
  clear hP P
  have hP8:=(hP7.mv (hT8.2.2.sub (Nat.le_refl _) (by omega)) ha' hab' hb' (by omega))
  have hoff:=hT8.2.2.off
  have hl8:∀ p,a'≤p→p<mid→lt (el es8 p) (el es8 mid)=true:=fun p p1 p2=>by
   rw [hoff mid (.inr (Nat.le_refl _))]
   exact hT8.2.2.rng (by omega) (fun x=>lt x (el es7 mid)=true) hpl p p1 p2
  have hr8:∀ p,mid<p→p<b'→lt (el es8 mid) (el es8 p)=true:=fun p p1 p2=>by
   rw [hoff mid (.inr (Nat.le_refl _)),hoff p (.inr (by omega))];exact hpr' p p1 p2
  refine Ru.r1 fun P hP=>?_
  simp -implicitDefEqProofs (disch:=first|decide|omega) [j16,em]
  refine Rg.ret (hP _ _ ⟨by repeat first | exact hk06 | refine Keep.up (by rfl) ?_,(m1,b'),by simp;omega,by simp (disch:=first|decide|omega),by simp (disch:=first|decide|omega) [j2],⟨L2,by simp (disch:=first|decide|omega) [j3],hL2⟩,⟨_,by simp (disch:=first|decide|omega);rfl⟩,⟨al,by simp (disch:=first|decide|omega) [j11]⟩,⟨by simp;omega,by simp;omega,hb'⟩,es8,hT1.then ((hT7.then (hT8.sub (Nat.le_refl _) (by omega))).sub ha' hb'),by rw [hmm];exact hP8.left H.ord ha' hm1 hm2 hb' hS8 hl8 hr8⟩)
 ·
  refine Ru.rs fun P hP=>?_
  simp -implicitDefEqProofs (disch:=first|decide|omega)
  refine Rg.ret (hP _ _ ?_)
  clear hP P
  refine Ru.rs fun P hP=>?_
  simp -implicitDefEqProofs (disch:=first|decide|omega) [j0,j2,j3,j4,j16,em]
  refine Rg.call (ih (a:=m1) (b:=b') (L:=L2) hT7.1 (by omega) (by omega) (by omega) (by omega) hL2 (.inr fun p p1 p2=>by rw [hmm,Nat.add_sub_cancel];exact hpr' p (by omega) p2)) fun r t8 h=>?_
  obtain ⟨es8,hT8,hS8⟩:=h
  refine Rg.ret (hP _ _ ?_)
  clear hP P
  have hP8:=(hP7.mv (hT8.2.2.sub (by omega) (Nat.le_refl _)) ha' hab' hb' (by omega))
  have hoff:=hT8.2.2.off
  have hl8:∀ p,a'≤p→p<mid→lt (el es8 p) (el es8 mid)=true:=fun p p1 p2=>by
   rw [hoff mid (.inl (by omega)),hoff p (.inl (by omega))];exact hpl p p1 p2
  have hr8:∀ p,mid<p→p<b'→lt (el es8 mid) (el es8 p)=true:=fun p p1 p2=>by
   rw [hoff mid (.inl (by omega))]
   exact hT8.2.2.rng (by omega) (fun x=>lt (el es7 mid) x=true) (fun i i1 i2=>hpr' i (by omega) i2) p (by omega) p2
  refine Ru.r1 fun P hP=>?_
  simp -implicitDefEqProofs (disch:=first|decide|omega) [j16]
  refine Rg.ret (hP _ _ ⟨by repeat first | exact hk06 | refine Keep.up (by rfl) ?_,(a',mid),by simp;omega,by simp (disch:=first|decide|omega) [j1],by simp (disch:=first|decide|omega),⟨L2,by simp (disch:=first|decide|omega) [j3],hL2⟩,⟨_,by simp (disch:=first|decide|omega);rfl⟩,⟨al,by simp (disch:=first|decide|omega) [j11]⟩,⟨ha',hm1,by simp;omega⟩,es8,hT1.then ((hT7.then (hT8.sub (by omega) (Nat.le_refl _))).sub ha' hb'),hP8.right H.ord ha' hm1 hm2 hb' (by rw [← hmm];exact hS8) hl8 hr8⟩)
theorem sortF_ok (hz:PdAt F z0) (H:Cmp F s0 id v lt es0) (h0:On s0 id off m v lt es0 s es) (hn:es.length<256) :
  Ca (cF F) z0.sortF [.sc (.slice id off es.length cap 1),.sc v] s (fun _ s'=>∃ es',To s0 id off m v lt es0 s es 0 es.length s' es'∧Srt lt es' 0 es.length):=by
 refine Ca.ofU (hf:=hSortF z0) hz.sortF.1 hz.sortF.2 [q0,q1] [] rfl rfl rfl fun Q hQ=>?_
 refine Ru.rs fun P hP=>?_
 simp -implicitDefEqProofs (disch:=first|decide|omega)
 refine Rg.ret (hP _ _ ?_)
 clear hP P
 refine Ru.r1 fun P hP=>?_
 simp -implicitDefEqProofs (disch:=first|decide|omega)
 refine Rg.call (len_ok hz hn) fun r s' h=>?_
 obtain ⟨rfl,k,rfl,hk,_,_⟩:=h
 refine Rg.call (pdq_ok hz H 256 (a:=0) (b:=es.length) (L:=k) h0 (Nat.zero_le _) (Nat.le_refl _) (by omega) (Nat.le_refl _) (by omega) (.inl rfl)) fun r s2 h=>?_
 exact Rg.ret (hP _ _ (hQ _ _ (.nil0 h)).2)
end
section
noncomputable def hInv (p:Nat):HF:=⟨
(.seq (.reg [q4] fun c r s K=>K [U0] s)
 (.seq (.reg [q5] fun c r s K=>c p [(r q0)] s fun v0 s=>K [v0] s)
 (.seq (.seq (.reg [q20] fun c r s K=>binK .eql (r q5) U0 fun v0=>mf v0 (r q1) s fun v1 s=>mf v0 (r q5) s fun v2 s=>jf v0 (binK .rem v1 v2) s fun v3 s=>jf v0 (binK .eql v3 U0) s fun v4 s=>pck v0 tt v4 fun v5=>K [v5] s)
 (.cond (.t q20) (.seq (.reg [q4] fun c r s K=>K [U0] s)
 .ret)
 .skip))
 (.seq (.drw [q6,q7] fun c r s K=>(fun z m=>cnv .i64 (r q5) fun v0=>binK .rem (r q1) (r q5) fun v1=>cnv .i64 v1 fun v2=>K [v0,v2] s) s.next mk0)
 (.seq (.reg [q8,q9] fun c r s K=>K [I0,I1] s)
 (.seq (.block n0 (.loop (.seq (.seq (.reg [q28] fun c r s K=>binK .neq (r q7) I0 fun v0=>K [v0] s)
 (.cond (.t q28) .skip
 (.exit n0)))
 (.block n1 (.seq (.reg [q10] fun c r s K=>binK .quo (r q6) (r q7) fun v0=>K [v0] s)
 (.seq (.reg [q6,q7] fun c r s K=>binK .mul (r q10) (r q7) fun v0=>binK .sub (r q6) v0 fun v1=>K [(r q7),v1] s)
 (.reg [q8,q9] fun c r s K=>binK .mul (r q10) (r q9) fun v0=>binK .sub (r q8) v0 fun v1=>K [(r q9),v1] s)))))))
 (.seq (.seq (.reg [q45] fun c r s K=>binK .lss (r q8) I0 fun v0=>K [v0] s)
 (.cond (.t q45) (.reg [q8] fun c r s K=>cnv .i64 (r q5) fun v0=>binK .add (r q8) v0 fun v1=>K [v1] s)
 .skip))
 (.seq (.reg [q4] fun c r s K=>cnv .u64 (r q8) fun v0=>K [v0] s)
 .ret)))))))),[(.tmp q4)],[q0,q1],[q11,q12,q13,q14,q15,q16,q17,q18,q19,q21,q22,q23,q24,q25,q26,q27,q29,q30,q31,q32,q33,q34,q35,q36,q37,q38,q39,q40,q41,q42,q43,q44,q46,q47,q48,q49,q50,q51]⟩
noncomputable def hRValid:HF:=⟨
(.seq (.reg [q2] fun c r s K=>K [ff] s)
 (.seq (.reg [q2] fun c r s K=>binK .geq (r q0) I0 fun v0=>mt v0 (r q0) s fun v1 s=>jt v0 (binK .leq v1 I3) s fun v2 s=>pck v0 v2 ff fun v3=>K [v3] s)
 .ret)),[(.tmp q2)],[q0],[q3,q4,q5,q6,q7,q8]⟩
noncomputable def hRP:HF:=⟨
(.seq (.reg [q2] fun c r s K=>K [U0] s)
 (.seq (.seq (.reg [q3] fun c r s K=>K [(r q0)] s)
 (.block n0 (.seq (.reg [q4] fun c r s K=>binK .eql (r q3) I0 fun v0=>K [v0] s)
 (.cond (.t q4) (.seq (.reg [q2] fun c r s K=>K [(u6 n97)] s)
 .ret)
 (.seq (.reg [q6] fun c r s K=>binK .eql (r q3) I1 fun v0=>K [v0] s)
 (.cond (.t q6) (.seq (.reg [q2] fun c r s K=>K [(u6 (nat_lit 257))] s)
 .ret)
 (.seq (.reg [q8] fun c r s K=>binK .eql (r q3) I2 fun v0=>K [v0] s)
 (.cond (.t q8) (.seq (.reg [q2] fun c r s K=>K [(u6 (nat_lit 12289))] s)
 .ret)
 (.seq (.reg [q10] fun c r s K=>binK .eql (r q3) I3 fun v0=>K [v0] s)
 (.cond (.t q10) (.seq (.reg [q2] fun c r s K=>(fun v0=>K [v0] s) (u6 (nat_lit 998244353)))
 .ret)
 .skip))))))))))
 (.seq (.reg [q2] fun c r s K=>K [U0] s)
 .ret))),[(.tmp q2)],[q0],[q5,q7,q9,q11]⟩
noncomputable def hRMul (v p:Nat):HF:=⟨
(.seq (.reg [q6] fun c r s K=>K [U0] s)
 (.seq (.seq (.reg [q9] fun c r s K=>c v [(r q0)] s fun v0 s=>nott v0 fun v1=>K [v1] s)
 (.cond (.t q9) (.seq (.reg [q6] fun c r s K=>K [U0] s)
 .ret)
 .skip))
 (.seq (.drw [q6] fun c r s K=>(fun z m=>dw3 m n4 n2 s (fun s q=>c p [(r q0)] s q) fun v0 m s=>binK .rem (r q1) v0 fun v1=>dw3 m n64 n38 s (fun s q=>c p [(r q0)] s q) fun v2 m s=>binK .rem (r q2) v2 fun v3=>binK .mul v1 v3 fun v4=>dw3 m (nat_lit 1024) (nat_lit 614) s (fun s q=>c p [(r q0)] s q) fun v5 m s=>binK .rem v4 v5 fun v6=>K [v6] s) s.next mk0)
 .ret))),[(.tmp q6)],[q0,q1,q2],[q7,q8,q10,q11,q12,q13,q14,q15,q16,q17,q18,q19,q20,q21]⟩
noncomputable def hRPow (v w m:Nat):HF:=⟨
(.seq (.reg [q6] fun c r s K=>K [U0] s)
 (.seq (.seq (.reg [q10] fun c r s K=>c v [(r q0)] s fun v0 s=>nott v0 fun v1=>K [v1] s)
 (.cond (.t q10) (.seq (.reg [q6] fun c r s K=>K [U0] s)
 .ret)
 .skip))
 (.seq (.seq (.reg [q12] fun c r s K=>binK .eql (r q2) U0 fun v0=>K [v0] s)
 (.cond (.t q12) (.seq (.reg [q6] fun c r s K=>K [U1] s)
 .ret)
 .skip))
 (.seq (.reg [q7] fun c r s K=>binK .quo (r q2) U2 fun v0=>c w [(r q0),(r q1),v0] s fun v1 s=>K [v1] s)
 (.seq (.reg [q7] fun c r s K=>c m [(r q0),(r q7),(r q7)] s fun v0 s=>K [v0] s)
 (.seq (.seq (.reg [q24] fun c r s K=>binK .rem (r q2) U2 fun v0=>binK .eql v0 U1 fun v1=>K [v1] s)
 (.cond (.t q24) (.reg [q7] fun c r s K=>c m [(r q0),(r q7),(r q1)] s fun v0 s=>K [v0] s)
 .skip))
 (.seq (.reg [q6] fun c r s K=>K [(r q7)] s)
 .ret))))))),[(.tmp q6)],[q0,q1,q2],[q8,q9,q11,q13,q14,q15,q16,q17,q18,q19,q20,q21,q22,q23,q25,q26,q27,q28,q29]⟩
noncomputable def hRInv (v p w:Nat):HF:=⟨
(.seq (.reg [q4] fun c r s K=>K [U0] s)
 (.seq (.seq (.reg [q7] fun c r s K=>c v [(r q0)] s fun v0 s=>nott v0 fun v1=>K [v1] s)
 (.cond (.t q7) (.seq (.reg [q4] fun c r s K=>K [U0] s)
 .ret)
 .skip))
 (.seq (.reg [q4] fun c r s K=>c p [(r q0)] s fun v0 s=>binK .sub v0 U2 fun v1=>c w [(r q0),(r q1),v1] s fun v2 s=>K [v2] s)
 .ret))),[(.tmp q4)],[q0,q1],[q5,q6,q8,q9,q10,q11,q12,q13]⟩
def invF:Nat→Nat→Nat→Int→Int→Int
 | 0,_,_,t0,_=>t0
 | k+1,r0,r1,t0,t1=>if r1=0 then t0 else invF k r1 (r0 % r1) t1 (t0 - (r0 / r1:Nat) * t1)
def invL (r0 r1:Nat) (t0 t1:Int):Int:=if h:r1=0 then t0 else invL r1 (r0 % r1) t1 (t0 - (r0 / r1:Nat) * t1)
termination_by r1
decreasing_by exact Nat.mod_lt _ (by omega)
theorem invL_F:∀ (k r0 r1:Nat) (t0 t1:Int),r1<k→invL r0 r1 t0 t1=invF k r0 r1 t0 t1
 | 0,_,_,_,_,h=>by omega
 | k+1,r0,r1,t0,t1,h=>by
  rw [invL]
  show _=if r1=0 then t0 else invF k r1 (r0 % r1) t1 (t0 - (r0 / r1:Nat) * t1)
  by_cases h0:r1=0
  ·rw [dif_pos h0,if_pos h0]
  ·rw [dif_neg h0,if_neg h0]
   exact invL_F k r1 (r0 % r1) t1 _ (by have:=Nat.mod_lt r0 (by omega:0<r1);omega)
def invV (P a:Nat):Nat:=if a % P=0 then 0 else (if invL P (a % P) 0 1<0 then invL P (a % P) 0 1+P else invL P (a % P) 0 1).toNat
def powF (P a:Nat):Nat→Nat→Nat
 | 0,_=>1
 | k+1,n=>if n=0 then 1 else
   let h:=powF P a k (n / 2)
   let h:=fmul P h h
   if n % 2=1 then fmul P h a else h
def powV (P a n:Nat):Nat:=powF P a (n+1) n
theorem powF_le (P a:Nat):∀ k n:Nat,n<k→∀ j:Nat,powF P a (k+j) n=powF P a k n
 | 0,n,h,_=>by omega
 | k+1,n,h,j=>by
  rw [show k+1+j=(k+j)+1 by omega]
  unfold powF
  by_cases h0:n=0
  ·rw [if_pos h0,if_pos h0]
  ·rw [if_neg h0,if_neg h0,powF_le P a k (n / 2) (by omega) j]
theorem powF_30 (P a n:Nat) (h:n<1073741824):powV P a n=powF P a 31 n:=by
 have key:∀ k n:Nat,n<2 ^ k→powF P a (n+1) n=powF P a (k+1) n:=by
  intro k
  induction k with
  | zero=>intro n h;have:n=0:=by simpa using h
          subst this;rfl
  | succ k ih =>
   intro n h
   by_cases h0:n=0
   ·subst h0;rfl
   have h1:=ih (n / 2) (by rw [Nat.pow_succ] at h;omega)
   have h2:=powF_le P a (n / 2+1) (n / 2) (by omega) (n - (n / 2+1))
   have e:n / 2+1+(n - (n / 2+1))=n:=by omega
   rw [e] at h2
   show (if n=0 then 1 else _)=(if n=0 then 1 else _)
   rw [if_neg h0,if_neg h0,h2,h1]
 exact key 30 n h
theorem powV_s (P a n:Nat) (h:n≠0):powV P a n=if n % 2=1 then fmul P (fmul P (powV P a (n / 2)) (powV P a (n / 2))) a else fmul P (powV P a (n / 2)) (powV P a (n / 2)):=by
 unfold powV
 have h1:=powF_le P a (n / 2+1) (n / 2) (by omega) (n - (n / 2+1))
 rw [show n / 2+1+(n - (n / 2+1))=n by omega] at h1
 rw [← h1]
 show (if n=0 then 1 else _)=_
 rw [if_neg h]
variable {F:Nat→Option HF}{g v o p a m w x M A B n:Nat}{st s:St}{l:List S}
theorem fInv (h:FAt F g v o p) (hi:F n=some (hInv p)) (bi:Nat.blt n yBase=true) (hl:Lies st g x M l) (A:Nat):Ca (cF F) n [iv x,uv A] st (fun v s=>(Fr st s∧s.next≤st.next+1)∧v=uv (invV M A)):=by
 refine Ca.of hi bi [q0,q1] [.tmp q4] rfl rfl rfl fun Q hQ=>?_
 have hp:=hl.pos
 have hpl:=hl.lt
 refine Ru.rs fun P hP=>Rg.ret (hP _ _ ?_)
 clear hP P
 refine Ru.rs fun P hP=>?_
 simp -implicitDefEqProofs (disch:=first|decide|omega)
 refine Rg.call (fP h.hv h.bv h.ho h.bo h.hp h.bp hl) fun v s hv=>?_
 obtain ⟨k,rfl⟩:=hv
 have hml:=Nat.mod_lt A hp
 refine Rg.ret (hP _ _ ?_)
 clear hP P
 refine Ru.seq (Ru.rs fun P hP=>?_)
 simp -implicitDefEqProofs (disch:=first|decide|omega)
 refine Rg.ret (hP _ _ (Ru.cond rfl (fun hh=>?_) fun hh=>Ru.skip ?_))
 ·simp at hh
  refine Ru.sreg (Rg.ret (Ru.ret (hQ _ _ (.one rfl ⟨k, ?_⟩))))
  unfold invV;rw [if_pos hh];rfl
 clear hP P
 simp at hh
 simp only [Then,Out]
 refine Ru.ds fun P hP=>?_
 simp -implicitDefEqProofs (disch:=first|decide|omega)
 refine Rg.ret (hP _ _ ?_)
 clear hP P
 refine Ru.rs fun P hP=>Rg.ret (hP _ _ ?_)
 clear hP P
 refine Ru.at (fun ρ=>ρ q5=uv M∧ρ q6=iv M∧ρ q7=iv (A % M:Nat)∧ρ q8=iv 0∧ρ q9=iv 1) ⟨rfl,rfl,rfl,rfl,rfl⟩ fun ρ0 hE=>?_
 obtain ⟨e5,e6,e7,e8,e9⟩:=hE
 refine Ru.seq (Ru.block (Ru.lp [q5] (fun r:Nat×Nat×Int×Int=>r.2.1) (fun r ρ s'=>s'=s∧ρ q6=iv r.1∧ρ q7=iv r.2.1∧ρ q8=iv r.2.2.1∧ρ q9=iv r.2.2.2∧r.2.1<r.1∧r.1≤M∧invL M (A % M) 0 1=invL r.1 r.2.1 r.2.2.1 r.2.2.2 ∧
   ∃ a b:Nat,a≤M∧b * r.1+a * r.2.1=M∧((r.2.2.1=a∧r.2.2.2= -(b:Int))∨(r.2.2.1= -(a:Int)∧r.2.2.2=b)))
  ⟨(M,A % M,0,1),rfl,e6,e7,e8,e9,hml,Nat.le_refl _,rfl,0,1,by omega,by omega,.inr ⟨rfl,rfl⟩⟩ fun r ρ s' hk hI=>?_))
 clear e6 e7 e8 e9
 obtain ⟨r0,r1,t0,t1⟩:=r
 obtain ⟨hs,e6,e7,e8,e9,hlt,hr0,hinv,a,b,ha,hb,hsg⟩:=hI
 subst s'
 simp only at e6 e7 e8 e9 hlt hr0 hinv hb hsg
 refine Ru.seq (Ru.rs fun P hP=>?_)
 simp -implicitDefEqProofs (disch:=first|decide|omega) [e7]
 refine Rg.ret (hP _ _ ?_)
 clear hP P
 refine Ru.cond rfl (fun h=>Ru.skip ?_) fun h=>Ru.exit ?_
 ·simp at h
  have hr1:0<r1:=by omega
  simp only [Then,Out]
  have hbr:b * r0≤M:=by omega
  have hb1:b≤M:=by
   rcases Nat.eq_zero_or_pos b with h | h
   ·omega
   ·exact Nat.le_trans (Nat.le_mul_of_pos_right b (by omega)) hbr
  have hq0:r0 / r1≤r0:=Nat.div_le_self _ _
  have hqb:b * (r0 / r1)≤M:=Nat.le_trans (Nat.mul_le_mul_left b hq0) hbr
  have hdm:=Nat.div_add_mod r0 r1
  have hmm:=Nat.mod_lt r0 hr1
  generalize hq:r0 / r1=q at *
  generalize hm:r0 % r1=m at *
  have hqr:r1 * q≤r0:=by omega
  have eqb:(q:Int) * t1=((b * q:Nat):Int)∨(q:Int) * t1= -((b * q:Nat):Int):=by
   rcases hsg with ⟨_,h⟩ | ⟨_,h⟩
   ·exact .inr (by rw [h,Int.mul_neg,Int.natCast_mul,Int.mul_comm])
   ·exact .inl (by rw [h,Int.natCast_mul,Int.mul_comm])
  have eqr:(q:Int) * (r1:Int)=((r1 * q:Nat):Int):=by rw [Int.natCast_mul,Int.mul_comm]
  have ht0:t0=a∨t0= -(a:Int):=by rcases hsg with ⟨h,_⟩ | ⟨h,_⟩;exact .inl h;exact .inr h
  have m1:∀ K:V→R,binK .mul (iv (q:Int)) (iv (r1:Int)) K=K (iv ((q:Int) * (r1:Int))):=fun K=>imul0 _ _ K (by rw [eqr];omega) (by rw [eqr];omega)
  have m2:∀ K:V→R,binK .mul (iv (q:Int)) (iv t1) K=K (iv ((q:Int) * t1)):=fun K=>imul0 _ _ K (by rcases eqb with h | h <;> rw [h] <;> omega) (by rcases eqb with h | h <;> rw [h] <;> omega)
  refine Ru.block (Ru.rs fun P hP=>?_)
  have hqi:(r0:Int) / (r1:Int)=(q:Int):=by rw [← hq];rfl
  simp -implicitDefEqProofs (disch:=first|decide|omega) [e6,e7,hqi]
  refine Rg.ret (hP _ _ ?_)
  clear hP P
  refine Ru.rs fun P hP=>?_
  simp -implicitDefEqProofs (disch:=first|decide|omega) [e6,e7,m1]
  refine Rg.ret (hP _ _ ?_)
  clear hP P
  refine Ru.r1 fun P hP=>?_
  simp -implicitDefEqProofs (disch:=first | decide | (rcases eqb with h | h <;> rcases ht0 with h2 | h2 <;> rw [h] <;> omega) | omega) [e8,e9,m2]
  have hrm:(r0:Int) - (q:Int) * (r1:Int)=(m:Int):=by rw [eqr];omega
  refine Rg.ret (hP _ _ ?_)
  clear hP P
  refine ⟨by repeat first | exact hk | refine Keep.up (by rfl) ?_,(r1,m,t1,t0 - (q:Int) * t1),hmm,rfl, ?_, ?_, ?_, ?_,hmm,by show r1≤M;omega, ?_,b,a+b * q,hb1, ?_, ?_⟩
  ·simp (disch:=first|decide|omega) [e7]
  ·simp (disch:=first|decide|omega) [hrm]
  ·simp (disch:=first|decide|omega)
  ·simp (disch:=first|decide|omega)
  ·rw [hinv,invL,dif_neg (by omega),hq,hm]
  ·show (a+b * q) * r1+b * m=M
   have:b * r0=b * (r1 * q)+b * m:=by rw [← Nat.mul_add,hdm]
   rw [Nat.add_mul,Nat.mul_assoc b q r1,Nat.mul_comm q r1];omega
  ·show (t1=(b:Int)∧t0 - (q:Int) * t1= -((a+b * q:Nat):Int))∨(t1= -(b:Int)∧t0 - (q:Int) * t1=((a+b * q:Nat):Int))
   rcases hsg with ⟨h1,h2⟩ | ⟨h1,h2⟩
   ·refine .inr ⟨h2, ?_⟩
    have:(q:Int) * t1= -((b * q:Nat):Int):=by rw [h2,Int.mul_neg,Int.natCast_mul,Int.mul_comm]
    rw [this];omega
   ·refine .inl ⟨h2, ?_⟩
    have:(q:Int) * t1=((b * q:Nat):Int):=by rw [h2,Int.natCast_mul,Int.mul_comm]
    rw [this];omega
 simp at h
 have hr1:r1=0:=by omega
 subst hr1
 rw [show invL r0 0 t0 t1=t0 by rw [invL,dif_pos rfl]] at hinv
 simp only [Then,Out,if_true]
 have ht0:t0=a∨t0= -(a:Int):=by rcases hsg with ⟨h,_⟩ | ⟨h,_⟩;exact .inl h;exact .inr h
 have hres:invV M A=(if t0<0 then t0+M else t0).toNat:=by unfold invV;rw [if_neg hh,← hinv]
 refine Ru.seq (Ru.rs fun P hP=>?_)
 simp -implicitDefEqProofs (disch:=first|decide|omega) [e8]
 refine Rg.ret (hP _ _ ?_)
 clear hP P
 refine Ru.cond rfl (fun h=>?_) fun h=>Ru.skip ?_
 ·simp at h
  refine Ru.r1 fun P hP=>?_
  simp -implicitDefEqProofs (disch:=first|decide|omega) [hk.e,e5,e8]
  refine Rg.ret (hP _ _ ?_)
  clear hP P
  simp only [Then,Out]
  refine Ru.rs fun P hP=>?_
  simp -implicitDefEqProofs (disch:=first|decide|omega)
  refine Rg.ret (hP _ _ (Ru.ret (hQ _ _ (.one rfl ⟨k, ?_⟩))))
  rw [hres,if_pos h];rfl
 ·simp at h
  simp only [Then,Out]
  refine Ru.rs fun P hP=>?_
  simp -implicitDefEqProofs (disch:=first|decide|omega) [e8]
  refine Rg.ret (hP _ _ (Ru.ret (hQ _ _ (.one rfl ⟨k, ?_⟩))))
  rw [hres,if_neg (by omega)];rfl
theorem uquo0 (a b:Nat) (K:V→R) (h:0<b) (h':a<18446744073709551616):binK .quo (uv a) (uv b) K=K (uv (a / b)):=by
 have e:intEq (b:Int) 0=false:=by rw [intEq_eq];simp;omega
 have hd:a / b≤a:=Nat.div_le_self a b
 have h1:binK .quo (uv a) (uv b) K=quoK .u64 (a:Int) (b:Int) K:=rfl
 rw [h1]
 unfold quoK
 rw [e,iteB_false,intK_eq,show Int.tdiv (a:Int) (b:Int)=((a / b:Nat):Int) from rfl,wrap_u64 (by omega)];rfl
def pF (x:Nat):Nat:=[97,257,12289,998244353].getD x 0
theorem pF_lt (x:Nat):pF x<1073741824:=by
 unfold pF
 match x with
 | 0=>decide
 | 1=>decide
 | 2=>decide
 | 3=>decide
 | n+4=>show (0:Nat)<_;decide
theorem pF_pos {x:Nat} (h:x<4):2<pF x:=by
 unfold pF
 rcases (show x=0∨x=1∨x=2∨x=3 by omega) with rfl | rfl | rfl | rfl <;> decide
structure RAt (F:Nat→Option HF) (v p m w n:Nat):Prop where
 hv:F v=some hRValid
 bv:Nat.blt v yBase=true
 hp:F p=some hRP
 bp:Nat.blt p yBase=true
theorem fRValid (h:F v=some hRValid) (b:Nat.blt v yBase=true) {x:Nat} (h4:x<4):Ca (cF F) v [iv x] st (fun v s=>s=st∧v=bl true):=by
 refine Ca.of h b [q0] [.tmp q2] rfl rfl rfl fun Q hQ=>?_
 refine Ru.sreg (Rg.ret ?_)
 refine Ru.sreg ?_
 simp (disch:=first|decide|omega) [show (0:Int)≤(x:Int) by omega,show (x:Int)≤3 by omega]
 exact Rg.ret (Ru.ret (hQ _ _ (.one rfl ⟨rfl,rfl⟩)))
theorem fRP (h:F p=some hRP) (b:Nat.blt p yBase=true) {x:Nat} (h4:x<4):Ca (cF F) p [iv x] st (fun v s=>s=st∧v=uv (pF x)):=by
 refine Ca.of h b [q0] [.tmp q2] rfl rfl rfl fun Q hQ=>?_
 refine Ru.sreg (Rg.ret ?_)
 refine Ru.seq (Ru.sreg (Rg.ret ?_))
 refine Ru.block ?_
 refine Ru.sreg ?_
 simp (disch:=first|decide|omega)
 refine Rg.ret (Ru.cond rfl (fun hh=>?_) fun hh=>?_)
 ·simp at hh;have:x=0:=by omega
  subst this
  exact Ru.sreg (Rg.ret (Ru.ret (hQ _ _ (.one rfl ⟨rfl,rfl⟩))))
 simp at hh
 refine Ru.sreg ?_
 simp (disch:=first|decide|omega)
 refine Rg.ret (Ru.cond rfl (fun h1=>?_) fun h1=>?_)
 ·simp at h1;have:x=1:=by omega
  subst this
  exact Ru.sreg (Rg.ret (Ru.ret (hQ _ _ (.one rfl ⟨rfl,rfl⟩))))
 simp at h1
 refine Ru.sreg ?_
 simp (disch:=first|decide|omega)
 refine Rg.ret (Ru.cond rfl (fun h2=>?_) fun h2=>?_)
 ·simp at h2;have:x=2:=by omega
  subst this
  exact Ru.sreg (Rg.ret (Ru.ret (hQ _ _ (.one rfl ⟨rfl,rfl⟩))))
 simp at h2
 refine Ru.sreg ?_
 simp (disch:=first|decide|omega)
 refine Rg.ret (Ru.cond rfl (fun h3=>?_) fun h3=>?_)
 ·simp at h3;have:x=3:=by omega
  subst this
  exact Ru.sreg (Rg.ret (Ru.ret (hQ _ _ (.one rfl ⟨rfl,rfl⟩))))
 simp at h3
theorem fRMul (hv:F v=some hRValid) (bv:Nat.blt v yBase=true) (hp:F p=some hRP) (bp:Nat.blt p yBase=true) (hm:F m=some (hRMul v p)) (bm:Nat.blt m yBase=true) (hw:WfS st) {x:Nat} (h4:x<4) (A B:Nat) :
  Ca (cF F) m [iv x,uv A,uv B] st (fun v s=>Fr st s∧v=uv (fmul (pF x) A B)):=by
 refine Ca.of hm bm [q0,q1,q2] [.tmp q6] rfl rfl rfl fun Q hQ=>?_
 refine Ru.sreg (Rg.ret ?_)
 refine Ru.seq (Ru.sreg ?_)
 refine Rg.call (fRValid hv bv h4) fun v s hv=>?_
 obtain ⟨rfl,rfl⟩:=hv
 simp (disch:=first|decide|omega)
 refine Rg.ret (Ru.cond rfl (fun h=>by cases h) fun h=>Ru.skip ?_)
 have h1:=pF_lt x
 have h0:=pF_pos h4
 have hA:=Nat.mod_lt A (by omega:0<pF x)
 have hB:=Nat.mod_lt B (by omega:0<pF x)
 have hAB:A % pF x * (B % pF x)≤1073741824 * 1073741824:=Nat.mul_le_mul (by omega) (by omega)
 refine Ru.sdrw ?_
 have call:∀ s:St,WfS s→Ca (cF F) p [iv x] (setLow s s.next) (fun v s'=>Fr (setLow s s.next) s'∧v=uv (pF x)):=fun s hs=>(fRP hp bp h4).imp fun v t ht=>by
  obtain ⟨rfl,rfl⟩:=ht;exact ⟨Fr.refl (wf_setLow (h:=hs)),rfl⟩
 refine Rg.hide fun P hP=>?_
 simp -implicitDefEqProofs (disch:=first|decide|omega)
 refine Rg.dc (fun v=>v=uv (pF x)) hw (by decide) (by decide) (call _ hw) fun v s1 f1 hv1=>?_
 subst hv1
 simp -implicitDefEqProofs (disch:=first|decide|omega)
 refine Rg.dc (fun v=>v=uv (pF x)) f1.wf (by decide) (by decide) (call _ f1.wf) fun v s2 f2 hv2=>?_
 subst hv2
 simp -implicitDefEqProofs (disch:=first|decide|omega)
 refine Rg.dc (fun v=>v=uv (pF x)) f2.wf (by decide) (by decide) (call _ f2.wf) fun v s3 f3 hv3=>?_
 subst hv3
 simp -implicitDefEqProofs (disch:=first|decide|omega)
 refine Rg.ret (hP _ _ (Ru.ret (hQ _ _ (.one rfl ⟨(f1.trans f2).trans f3, ?_⟩))))
 show uv (_ % _)=uv (A % pF x * (B % pF x) % pF x)
 rw [← Nat.mul_mod]
theorem fRPow (hv:F v=some hRValid) (bv:Nat.blt v yBase=true) (hp:F p=some hRP) (bp:Nat.blt p yBase=true) (hm:F m=some (hRMul v p)) (bm:Nat.blt m yBase=true) (hww:F w=some (hRPow v w m)) (bw:Nat.blt w yBase=true) {x:Nat} (h4:x<4) (A:Nat) :
  ∀ (n:Nat) (st:St),WfS st→n<18446744073709551616→Ca (cF F) w [iv x,uv A,uv n] st (fun v s=>Fr st s∧v=uv (powV (pF x) A n)):=by
 intro n
 induction n using Nat.strongRecOn with
 | ind n ih =>
 intro st hw hnl
 refine Ca.of hww bw [q0,q1,q2] [.tmp q6] rfl rfl rfl fun Q hQ=>?_
 refine Ru.sreg (Rg.ret ?_)
 refine Ru.seq (Ru.sreg ?_)
 refine Rg.call (fRValid hv bv h4) fun v s hv'=>?_
 obtain ⟨rfl,rfl⟩:=hv'
 simp (disch:=first|decide|omega)
 refine Rg.ret (Ru.cond rfl (fun h=>by cases h) fun h=>Ru.skip ?_)
 refine Ru.seq (Ru.sreg ?_)
 simp (disch:=first|decide|omega)
 refine Rg.ret (Ru.cond rfl (fun h=>?_) fun h=>Ru.skip ?_)
 ·simp at h;subst h
  exact Ru.sreg (Rg.ret (Ru.ret (hQ _ _ (.one rfl ⟨Fr.refl hw,rfl⟩))))
 simp at h
 have e:=powV_s (pF x) A n h
 refine Ru.sreg ?_
 refine Rg.hide fun P hP=>?_
 simp -implicitDefEqProofs (disch:=first|decide|omega) [uquo0]
 refine Rg.call (ih (n / 2) (by omega) _ hw (by omega)) fun v s1 hv1=>?_
 obtain ⟨f1,rfl⟩:=hv1
 refine Rg.ret (hP _ _ ?_)
 clear hP P
 refine Ru.sreg ?_
 refine Rg.hide fun P hP=>?_
 simp -implicitDefEqProofs (disch:=first|decide|omega)
 refine Rg.call (fRMul hv bv hp bp hm bm f1.wf h4 _ _) fun v s2 hv2=>?_
 obtain ⟨f2,rfl⟩:=hv2
 refine Rg.ret (hP _ _ ?_)
 clear hP P
 refine Ru.seq (Ru.sreg ?_)
 refine Rg.hide fun P hP=>?_
 simp -implicitDefEqProofs (disch:=first|decide|omega)
 refine Rg.ret (hP _ _ ?_)
 clear hP P
 refine Ru.cond rfl (fun h2=>?_) fun h2=>Ru.skip ?_
 ·simp at h2
  refine Ru.reg ?_
  refine Rg.hide fun P hP=>?_
  simp -implicitDefEqProofs (disch:=first|decide|omega)
  refine Rg.call (fRMul hv bv hp bp hm bm f2.wf h4 _ _) fun v s3 hv3=>?_
  obtain ⟨f3,rfl⟩:=hv3
  refine Rg.ret (hP _ _ ?_)
  refine Ru.sreg (Rg.ret (Ru.ret (hQ _ _ (.one rfl ⟨(f1.trans f2).trans f3, ?_⟩))))
  rw [e,if_pos h2];rfl
 ·simp at h2
  refine Ru.sreg (Rg.ret (Ru.ret (hQ _ _ (.one rfl ⟨f1.trans f2, ?_⟩))))
  rw [e,if_neg (by omega)];rfl
theorem fRInv (hv:F v=some hRValid) (bv:Nat.blt v yBase=true) (hp:F p=some hRP) (bp:Nat.blt p yBase=true) (hm:F m=some (hRMul v p)) (bm:Nat.blt m yBase=true) (hww:F w=some (hRPow v w m)) (bw:Nat.blt w yBase=true) (hi:F n=some (hRInv v p w)) (bi:Nat.blt n yBase=true) (hw:WfS st) {x:Nat} (h4:x<4) (A:Nat) :
  Ca (cF F) n [iv x,uv A] st (fun v s=>Fr st s∧v=uv (powV (pF x) A (pF x - 2))):=by
 refine Ca.of hi bi [q0,q1] [.tmp q4] rfl rfl rfl fun Q hQ=>?_
 refine Ru.sreg (Rg.ret ?_)
 refine Ru.seq (Ru.sreg ?_)
 refine Rg.call (fRValid hv bv h4) fun v s hv'=>?_
 obtain ⟨rfl,rfl⟩:=hv'
 simp (disch:=first|decide|omega)
 refine Rg.ret (Ru.cond rfl (fun h=>by cases h) fun h=>Ru.skip ?_)
 have h1:=pF_lt x
 have h0:=pF_pos h4
 refine Ru.sreg ?_
 refine Rg.hide fun P hP=>?_
 refine Rg.call (fRP hp bp h4) fun v s1 hv1=>?_
 obtain ⟨rfl,rfl⟩:=hv1
 simp -implicitDefEqProofs (disch:=first|decide|omega)
 refine Rg.call (fRPow hv bv hp bp hm bm hww bw h4 A _ _ hw (by omega)) fun v s2 hv2=>?_
 obtain ⟨f2,rfl⟩:=hv2
 exact Rg.ret (hP _ _ (Ru.ret (hQ _ _ (.one rfl ⟨f2,rfl⟩))))
end
section
variable {s t u:St}{id n z i k:Nat}{f g:Nat→List S}
structure Tb (s:St) (id n z:Nat) (f:Nat→List S):Prop where
 own:∃ m,Own s id m∧n * z≤m
 lt:id<s.next
 len:∀ i,i<n→(f i).length=z
 rd:∀ i,i<n→∀ k x,(f i)[k]?=some x→Ev.rd s id (i * z+k)=some x
theorem Tb.fr (h:Tb s id n z f) (k:Fr s t):Tb t id n z f:=by
 obtain ⟨⟨m,h1,h2⟩,h3,h4,h5⟩:=h
 exact ⟨⟨m,h1.fr k,h2⟩,Nat.lt_of_lt_of_le h3 k.next,h4,fun i hi j x hx=>k.rd (h5 i hi j x hx)⟩
theorem Tb.kp {o:Option Nat} (h:Tb s id n z f) (k:Kp o s t) (ho:o≠some id):Tb t id n z f:=by
 obtain ⟨⟨m,h1,h2⟩,h3,h4,h5⟩:=h
 exact ⟨⟨m,h1.kp k ho,h2⟩,Nat.lt_of_lt_of_le h3 k.next,h4,fun i hi j x hx=>k.rd ho (h5 i hi j x hx)⟩
theorem Tb.congr (h:Tb s id n z f) (e:∀ i,i<n→f i=g i):Tb s id n z g :=
 ⟨h.own,h.lt,fun i hi=>e i hi▸h.len i hi,fun i hi=>e i hi▸h.rd i hi⟩
theorem Tb.N (h:Tb s id n z f) (hi:i<n):rdN s id (i * z) z=some (f i):=rdN_get (h.len i hi) fun k x hx=>h.rd i hi k x hx
theorem mul_le_of_lt (hi:i<n) (z:Nat):i * z+z≤n * z:=by
 have:=Nat.mul_le_mul_right z (show i+1≤n from hi)
 rw [Nat.succ_mul] at this;exact this
theorem Tb.kpw (h:Tb s id n z f) (hw:WfS s) (o:Nat) (x:List S):Kp (some id) s (wr s id o x):=kp_wr hw h.lt
theorem eq_of_div {a b i j z:Nat} (ha:a<z) (hb:b<z) (e:i * z+a=j * z+b):i=j∧a=b:=by
 have hz:0<z:=by omega
 have h1:(i * z+a) / z=i:=by rw [Nat.mul_comm,Nat.mul_add_div hz,Nat.div_eq_of_lt ha,Nat.add_zero]
 have h2:(j * z+b) / z=j:=by rw [Nat.mul_comm,Nat.mul_add_div hz,Nat.div_eq_of_lt hb,Nat.add_zero]
 have:i=j:=by rw [← h1,← h2,e]
 subst this
 exact ⟨rfl,by omega⟩
theorem some_lt {l:List S}{k:Nat}{x:S} (h:l[k]?=some x):k<l.length:=(List.getElem?_eq_some_iff.1 h).1
theorem Tb.set1 (h:Tb s id n z f) (hi:i<n) (hk:k<z) (x:S):Tb (wr s id (i * z+k) [x]) id n z (fun j=>if j=i then (f i).set k x else f j):=by
 obtain ⟨⟨m,h1,h2⟩,h3,h4,h5⟩:=h
 have hm:=mul_le_of_lt hi z
 refine ⟨⟨m,h1.wr,h2⟩,by rw [wr_next];exact h3,fun j hj=>?_,fun j hj a y hy=>?_⟩
 ·by_cases he:j=i
  ·rw [if_pos he,List.length_set];exact h4 i hi
  ·rw [if_neg he];exact h4 j hj
 have ha:a<z:=by
  have:=some_lt hy
  by_cases he:j=i
  ·rw [if_pos he,List.length_set,h4 i hi] at this;exact this
  ·rw [if_neg he,h4 j hj] at this;exact this
 rw [rd_wr h1 (by simp;omega)]
 by_cases he:j=i
 ·subst he
  rw [if_pos rfl,List.getElem?_set] at hy
  by_cases hak:k=a
  ·subst hak
   rw [if_pos rfl,if_pos (by rw [h4 j hi];exact hk)] at hy
   rw [if_pos ⟨rfl,Nat.le_refl _,by simp⟩]
   simpa using hy
  ·rw [if_neg hak] at hy
   rw [if_neg (by simp;omega)]
   exact h5 j hj a y hy
 ·rw [if_neg he] at hy
  rw [if_neg]
  ·exact h5 j hj a y hy
  ·rintro ⟨_,e1,e2⟩
   simp at e2
   exact he (eq_of_div ha hk (by omega:j * z+a=i * z+k)).1
theorem Tb.setN (h:Tb s id n z f) (hi:i<n) {l:List S} (hl:l.length=z):Tb (wr s id (i * z) l) id n z (fun j=>if j=i then l else f j):=by
 obtain ⟨⟨m,h1,h2⟩,h3,h4,h5⟩:=h
 have hm:=mul_le_of_lt hi z
 refine ⟨⟨m,h1.wr,h2⟩,by rw [wr_next];exact h3,fun j hj=>?_,fun j hj a y hy=>?_⟩
 ·by_cases he:j=i
  ·rw [if_pos he];exact hl
  ·rw [if_neg he];exact h4 j hj
 have ha:a<z:=by
  have:=some_lt hy
  by_cases he:j=i
  ·rw [if_pos he,hl] at this;exact this
  ·rw [if_neg he,h4 j hj] at this;exact this
 rw [rd_wr h1 (by omega)]
 by_cases he:j=i
 ·subst he
  rw [if_pos rfl] at hy
  rw [if_pos ⟨rfl,by omega,by omega⟩,← hy]
  congr 1;omega
 ·rw [if_neg he] at hy
  rw [if_neg]
  ·exact h5 j hj a y hy
  ·rintro ⟨_,e1,e2⟩
   exact he (eq_of_div ha (by omega:j * z+a - i * z<z) (by omega:j * z+a=i * z+(j * z+a - i * z))).1
theorem Tb.stoN (h:Tb s id n z f) (hi:i<n) {l:List S} (hl:l.length=z) (K:St→R):sto s z (.sc (.ptr id (i * z))) (.agg l) K=K (wr s id (i * z) l):=by
 obtain ⟨m,h1,h2⟩:=h.own
 have hm:=mul_le_of_lt hi z
 subst hl
 exact sto_agg K h1 (by omega)
theorem Tb.ix (h:Tb s id n z f) (hi:i<n) (c:Option Nat) (K:V→R):ixs z (.sc (.slice id 0 n c z)) (iv i) K=K (.sc (.ptr id (i * z))):=by
 rw [ixs_eq z K (by omega) (by omega)];simp
theorem Tb.ixu (h:Tb s id n z f) (hi:i<n) (c:Option Nat) (K:V→R):ixs z (.sc (.slice id 0 n c z)) (uv i) K=K (.sc (.ptr id (i * z))):=by
 show iteB (Nat.blt i n) (seqN (Nat.add 0 (Nat.mul i z)) fun o=>K (.sc (.ptr id o))) (.fail 75)=_
 have:Nat.blt i n=true:=Nat.ble_eq_true_of_le (by omega)
 rw [this,iteB_true,seqN_eq]
 show K (.sc (.ptr id (0+i * z)))=_
 rw [Nat.zero_add]
theorem Tb.mkz (zero:List S) (hz:zero.length=z):Tb (mkz s n z zero) s.next n z (fun _=>zero):=by
 refine ⟨⟨_,own_mkz zero z,Nat.le_refl _⟩,by simp,fun _ _=>hz,fun i hi k x hx=>?_⟩
 have hk:k<z:=hz▸some_lt hx
 have hm:=mul_le_of_lt hi z
 rw [rd_mkz,if_pos rfl,if_pos (by omega),show zAt zero (i * z+k)=zero[(i * z+k) % z]? by rw [← hz];rfl,← hx,Nat.mul_comm,Nat.mul_add_mod,Nat.mod_eq_of_lt hk]
theorem Tb.grw {a:Nat}{y:S}{l:List (List S)} (hs:Sat s y l.length z l.flatten) (hg:Grw a s y l.length z) (hw:WfS s) (hn:0<l.length) (hl:∀ x∈l,x.length=z) :
  ∃ id,y=.slice id 0 l.length none z∧a≤id∧Tb s id l.length z (fun i=>l.getD i []):=by
 rcases hg with ⟨h,_⟩ | ⟨id,b,rfl,ha,hb,ho,_,hm⟩
 ·omega
 refine ⟨id,rfl,ha,⟨b.n,⟨b,hb,ho,rfl⟩,hm⟩, ?_,fun i hi=>?_,fun i hi k x hx=>?_⟩
 ·refine Classical.byContradiction fun hh=>?_
  have:=hw id (by omega)
  rw [this] at hb;cases hb
 ·show (l.getD i []).length=z
  rw [List.getD_eq_getElem?_getD,List.getElem?_eq_getElem hi];exact hl _ (List.getElem_mem hi)
 ·have hx:(l.getD i [])[k]?=some x:=hx
  rw [List.getD_eq_getElem?_getD,List.getElem?_eq_getElem hi,Option.getD_some] at hx
  obtain ⟨id',off,c,e,hr⟩:=hs.rd hn
  cases e
  rw [← hr (i * z+k) x,Nat.zero_add]
  have key:∀ (l:List (List S)) (i:Nat) (hi:i<l.length),(∀ x∈l,x.length=z)→(l[i])[k]?=some x→l.flatten[i * z+k]?=some x:=by
   intro l
   induction l with
   | nil=>intro i hi;simp at hi
   | cons b l ih =>
    intro i hi hl hx
    have hb:=hl b List.mem_cons_self
    cases i with
    | zero =>
     have hx:b[k]?=some x:=hx
     rw [List.flatten_cons,Nat.zero_mul,Nat.zero_add,List.getElem?_append_left (some_lt hx)];exact hx
    | succ i =>
     have:=ih i (by simpa using hi) (fun x hx=>hl x (List.mem_cons_of_mem _ hx)) (by simpa using hx)
     rw [List.flatten_cons,List.getElem?_append_right (by rw [hb,Nat.succ_mul];omega),hb,← this]
     congr 1;rw [Nat.succ_mul];omega
  exact key l i hi hl hx
theorem setRange_whole:∀ (l x:List S),x.length=l.length→setRange l 0 x=x
 | [],[],_=>rfl
 | [],_ :: _,h=>by cases h
 | _ :: _,[],h=>by cases h
 | _ :: l,v :: x,h=>by rw [setRange,setRange_whole l x (by simpa using h)]
theorem fill_whole (tm:Ev) (K:List S→R) (l x:List S) (n:Nat) (h:x.length=n) (h':l.length=n):fillK tm K [(0,n,.c (.agg x))] l=K x:=by
 rw [fill_agg tm K _ 0 _ n [] h (by omega),fill_nil,setRange_whole _ _ (by omega)]
end
section
variable {st s t:St}{id off n i:Nat}
theorem okT_of {mk:Mk}{n0 pre:Nat}:∀ {l:List Nat},(∀ id∈l,okS mk n0 pre id=true)→okT mk n0 pre l=true
 | [],_=>rfl
 | id :: l,h=>by
  show and' (okS mk n0 pre id) (okT mk n0 pre l)=true
  rw [h id List.mem_cons_self,okT_of fun id hi=>h id (List.mem_cons_of_mem _ hi)];rfl
theorem app_dwT {x y:S}{n z b k a:Nat}{cs new:List S}{al lm sm hv:Nat}{ll:List LL}{ss:List (Nat×Nat)}{n0 bit pre:Nat} (hw:WfS st) (hs:Sat st x n z cs) (hm:Grw a st x n z) (ha:a≤st.next) (hy:Sat st y k z new) (hb:(4 * (n+k)+4096) * b≤281474976710656) (hl:n+k≤9223372036854775807)
  (hT:okT ⟨al,lm,sm,hv,[],ll,ss⟩ n0 pre (slIds x ++ slIds y)=true) :
  ∃ v st' ss',(∀ (c:CallK) (ρ:Ev) K,dw5 n0 ⟨al,lm,sm,hv,[],ll,ss⟩ bit pre st (.more (.more (.append z b (.c (.sc x)) (.c (.sc y))))) ρ (fun s q=>xA z b (.sc x) (.sc y) c ρ s q) K=K (.sc v) ⟨al ||| bit,lm,sm ||| bit,hv,[],ll,ss'⟩ st') ∧
   Sat st' v (n+k) z (cs ++ new)∧Grw a st' v (n+k) z∧Kp (sid x) st st'∧((k=0∧v=x)∨sid v=some st.next):=by
 have key:∀ i,(takeP st.heap (slIds x ++ slIds y) .leaf).get i=if i∈slIds x ++ slIds y then st.heap.get i else none:=fun i=>by rw [takeP_get,PM.get_leaf]
 generalize hids:slIds x ++ slIds y=ids at key
 let s1:St:=⟨takeP st.heap ids .leaf,st.next,st.low⟩
 have hw1:WfS s1:=fun id hid=>by
  show (takeP st.heap ids .leaf).get id=none
  rw [key]
  split
  ·exact hw id hid
  ·rfl
 have mem:∀ {w:S}{m:Nat}{cells:List S},(∀ id,sid w=some id→id∈ids)→Sat st w m z cells→Sat s1 w m z cells:=fun hi h=>by
  obtain ⟨e1,e2 | ⟨id,off,c,b,rfl,e3,e4,e5⟩⟩:=h
  ·exact ⟨e1,.inl e2⟩
  ·exact ⟨e1,.inr ⟨id,off,c,b,rfl,e3,(show (takeP st.heap ids .leaf).get id=some b by rw [key,if_pos (hi id rfl)];exact e4),e5⟩⟩
 have hx1:=mem (fun id hi=>by rw [← hids];exact List.mem_append_left _ ((slIds_sid x id).2 hi)) hs
 have hy1:=mem (fun id hi=>by rw [← hids];exact List.mem_append_right _ ((slIds_sid y id).2 hi)) hy
 have hm1:Grw a s1 x n z:=by
  rcases hm with h | ⟨id,b,rfl,e2,e3,e4⟩
  ·exact .inl h
  ·exact .inr ⟨id,b,rfl,e2,(show (takeP st.heap ids .leaf).get id=some b by rw [key,if_pos (by rw [← hids];exact List.mem_append_left _ (List.mem_singleton.2 rfl))];exact e3),e4⟩
 obtain ⟨v,s2,g1,g2,g3,g4,g5⟩:=app_any (b:=b) hw1 hx1 hm1 ha hy1.1 hb hl
 have hnext:s2.next=st.next∨s2.next=st.next+1:=by
  rcases g5 with ⟨_,_,rfl⟩ | ⟨_,h⟩
  ·exact .inl rfl
  ·exact .inr h
 let h':=if s2.next=st.next then takeP s2.heap ids st.heap else takeP s2.heap [st.next] (takeP s2.heap ids st.heap)
 have hget:∀ i,h'.get i=if i∈ids∨(st.next≤i∧i<s2.next) then s2.heap.get i else st.heap.get i:=fun i=>by
  show (if s2.next=st.next then takeP s2.heap ids st.heap else takeP s2.heap [st.next] (takeP s2.heap ids st.heap)).get i=_
  rcases hnext with hn | hn
  ·rw [if_pos hn,takeP_get]
   congr 1
   simp;omega
  ·rw [if_neg (by omega),takeP_get,takeP_get]
   by_cases e1:i=st.next
   ·subst e1;rw [if_pos (List.mem_singleton.2 rfl),if_pos (.inr ⟨Nat.le_refl _,by omega⟩)]
   ·rw [if_neg (by simpa using e1)]
    congr 1
    simp;omega
 have hsv:∀ id,sid v=some id→id∈ids∨(st.next≤id∧id<s2.next):=fun id hi=>by
  rcases g5 with ⟨_,rfl,_⟩ | ⟨h,h5⟩
  ·exact .inl (by rw [← hids];exact List.mem_append_left _ ((slIds_sid v id).2 hi))
  ·rw [h] at hi;cases hi;exact .inr ⟨Nat.le_refl _,by rw [h5];exact Nat.lt_succ_self _⟩
 refine ⟨v,⟨h',s2.next,s2.low⟩,ids.map (fun id=>(bit,id)) ++ ss,fun c ρ K=>?_, ?_, ?_, ?_, ?_⟩
 ·show seqL (slIds x ++ slIds y) (fun ids=>iteB (okT _ n0 pre ids) (takeH st.heap ids .leaf fun h=>xA z b (.sc x) (.sc y) c ρ ⟨h,st.next,st.low⟩ fun v s=>mergeK st ids s fun st=>mkT _ bit ids fun mk=>K v mk st) (.fail 85))=_
  rw [seqL_eq,hT,hids,iteB_true,takeH_eq]
  show xA z b (.sc x) (.sc y) c ρ s1 _=_
  rw [xA_sat hy1,g1]
  unfold mergeK
  rw [takeH_eq]
  rcases hnext with hn | hn
  ·have hh:h'=takeP s2.heap ids st.heap:=if_pos hn
   rw [hn,Nat.beq_refl,iteB_true]
   show mkT _ _ _ _=_
   rw [mkT_eq,hh]
   rfl
  ·have hh:h'=takeP s2.heap [st.next] (takeP s2.heap ids st.heap):=if_neg (by omega)
   have hf:Nat.beq s2.next st.next=false:=by rw [← Bool.not_eq_true];intro e;have:=Nat.eq_of_beq_eq_true e;omega
   have ht:Nat.beq s2.next (Nat.succ st.next)=true:=by rw [hn];exact Nat.beq_refl _
   rw [hf,iteB_false,ht,iteB_true,takeH_eq]
   show mkT _ _ _ _=_
   rw [mkT_eq,hh]
   rfl
 ·obtain ⟨e1,e2 | ⟨id,off,c,b,rfl,e3,e4,e5⟩⟩:=g2
  ·exact ⟨e1,.inl e2⟩
  ·exact ⟨e1,.inr ⟨id,off,c,b,rfl,e3,(show h'.get id=some b by rw [hget,if_pos (hsv id rfl)];exact e4),e5⟩⟩
 ·rcases g3 with h | ⟨id,b,rfl,e2,e3,e4⟩
  ·exact .inl h
  ·exact .inr ⟨id,b,rfl,e2,(show h'.get id=some b by rw [hget,if_pos (hsv id rfl)];exact e3),e4⟩
 ·refine ⟨g4.next,fun id b ho hb=>?_,fun a ha ho=>g4.low a ha ho,g4.low',fun id hid=>?_⟩
  ·show h'.get id=some b
   rw [hget]
   split
   ·rename_i hc
    rcases hc with hc | hc
    ·exact g4.old id b ho (show (takeP st.heap ids .leaf).get id=some b by rw [key,if_pos hc];exact hb)
    ·rw [hw id hc.1] at hb;cases hb
   ·exact hb
  ·show h'.get id=none
   rw [hget]
   have h6:s2.next≤id:=hid
   split
   ·exact g4.wf id h6
   ·exact hw id (by omega)
 ·rcases g5 with ⟨h,rfl,_⟩ | ⟨h,_⟩
  ·exact .inl ⟨h,rfl⟩
  ·exact .inr h
theorem Rg.dcM {C:Nat→CallK}{s:St}{al lm sm hv:Nat}{ll:List LL}{ss:List (Nat×Nat)}{bit pre f:Nat}{args:List V} (P1:V→St→Prop) {P:List V→St→Prop}{G:CallK→(List V→St→R)→V→Mk→St→R} (hr:∀ v h nx a b,P1 v ⟨h,nx,a⟩→P1 v ⟨h,nx,b⟩) (hw:WfS s) (h1:sub' al pre=true) (h2:sub' sm pre=true)
  (h:Ca C f args (setLow s s.next) (fun v s'=>Fr (setLow s s.next) s'∧P1 v s')) (k:∀ v s',Fr s s'→P1 v s'→Rg C (fun c K=>G c K v ⟨al ||| bit,lm,sm,hv ||| bit,[],ll,ss⟩ s') P):Rg C (fun c K=>Ev.dw3 ⟨al,lm,sm,hv,[],ll,ss⟩ bit pre s (fun s q=>c f args s q) (G c K)) P:=by
 obtain ⟨v,s',⟨k1,k2⟩,n,h3⟩:=h
 have hF:=Fr.setLow (h:=hw) k1
 obtain ⟨l,s2,h4,n',h5⟩:=k v _ hF (by cases s';exact hr _ _ _ _ _ k2)
 refine ⟨l,s2,h4,max n n',fun x hx K=>?_⟩
 show iteB (okH _ pre) (C x f args (setLow s s.next) fun v st'=>heavyK s.next s.low s pre bit _ (fun mk st=>G (C x) K v mk st) st') (.fail 89)=_
 rw [okH_all h1 h2,iteB_true,h3 x (by omega)]
 have hl:s.next≤s'.low:=by have:=k1.low;cases s;simpa [Ev.setLow] using this
 rw [← h5 x (by omega) K]
 cases s' with
 | mk hp nx lo =>
  show iteB (Nat.blt lo s.next) _ (mkH _ bit fun mk=>G (C x) K v mk ⟨hp,nx,s.low⟩)=_
  have:Nat.blt lo s.next=false:=by rw [← Bool.not_eq_true];intro hh;have:=blt_of hh;simp at hl;omega
  rw [this,iteB_false,mkH_mk]
theorem Tb.lo {z nx a b:Nat}{h:PM Blk}{f:Nat→List S} (k:Tb ⟨h,nx,a⟩ id n z f):Tb ⟨h,nx,b⟩ id n z f:=⟨k.own,k.lt,k.len,k.rd⟩
theorem uaddw (a b:Nat) (K:V→R):binK .add (uv a) (uv b) K=K (uv ((a+b) % 18446744073709551616)):=by
 rw [show binK .add (uv a) (uv b) K=_ from bin_add _ _ _ _]
 have:IntKind.u64.wrap ((a:Int)+b)=((a:Int)+b) % 18446744073709551616:=by
  unfold IntKind.wrap
  simp [IntKind.bits,IntKind.signed]
 rw [this,show ((a:Int)+b) % 18446744073709551616=(((a+b) % 18446744073709551616:Nat):Int) by omega];rfl
end
end Go.Proofs.YtkneccbdfpnnlaaGreatDoor.Ev
