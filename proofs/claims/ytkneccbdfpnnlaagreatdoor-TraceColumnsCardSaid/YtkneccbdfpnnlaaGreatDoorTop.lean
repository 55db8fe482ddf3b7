/- The law returns true, at every world in which the listed package variables hold what the program text lays; the card ties them to that text. -/
import Derived.Test.YtkneccbdfpnnlaaGreatDoorCards
import Derived.Test.YtkneccbdfpnnlaaGreatDoorTie
import Derived.WalkKit
import Derived.ProofKit
import Derived.OpenShut
import Derived.Deep.DeepHandedRow
import Derived.Deep.DeepWitnessRowRef
import Derived.Lib.LaidTab
import Derived.Test.YtkneccbdfpnnlaaGreatDoorEvC
import Derived.Test.YtkneccbdfpnnlaaGreatDoorMd
namespace Go.Proofs.YtkneccbdfpnnlaaGreatDoor.traceColumns
open Go.ChangeShapes Go.WideShapes Go.ChangeAt Go.RowKit
set_option maxRecDepth 100000
theorem own:ownKnob Tryz.prog.godebug=none:=by kernel_rfl
theorem order:Tryz.prog.follows .mixedOrders=true:=by kernel_rfl
theorem globalsLt:∀ n g',Tryz.prog.globalNamed n=some g'→g'<2:=fun n g' h=>by
 have h1:Tryz.prog.globals.size=2:=by kernel_rfl
 exact h1▸Ev.globalNamed_lt h
theorem held0:Ev.holdsAll (Ev.stOf Ev.l0 5).heap Ev.l0=true:=by kernel_rfl
theorem laidOut:laidOutB Tryz.prog=true:=by kernel_rfl
theorem readable3:Tryz.prog.readableRec 3=true∧3<Tryz.prog.types.size:=⟨by kernel_rfl,Nat.le_of_ble_eq_true (by kernel_rfl)⟩
theorem readable22:Tryz.prog.readableRec 22=true∧22<Tryz.prog.types.size:=⟨by kernel_rfl,Nat.le_of_ble_eq_true (by kernel_rfl)⟩
theorem readable23:Tryz.prog.readableRec 23=true∧23<Tryz.prog.types.size:=⟨by kernel_rfl,Nat.le_of_ble_eq_true (by kernel_rfl)⟩
theorem walk {H:Type}{enc:TypeId×Value→H}{W:World} (hL:laidMet Tryz.prog Rows.traceColumnsRow.laid W) {a0:Option Addr}{len0 cap0:Nat}{cs1:Array Value}{n2:Int}{d0 d1 d2:DataW H}{p0 p1 p2:List MemPlace}
  (h0:DataW.Trod enc Tryz.prog W 0 (fun _=>true) true 22 (.slice a0 len0 cap0) d0 p0)
  (h1:DataW.Trod enc Tryz.prog W 0 (fun _=>true) true 23 (.agg cs1) d1 p1)
  (h2:DataW.Trod enc Tryz.prog W 0 (fun _=>true) true 3 (.int .i64 n2) d2 p2) :
  Calls Tryz.prog 3 #[.slice a0 len0 cap0,.agg cs1,.int .i64 n2] W fun e w'=>e=.returned (.bool true)∧Below W.heap.size W w'∧∀ a,w'.frozen? a=W.frozen? a:=by
 obtain ⟨σ,hS⟩:=Ev.stOf_seen hL globalsLt Ev.laid0
 obtain ⟨f0,g0⟩:=h0
 obtain ⟨f1,g1⟩:=h1
 obtain ⟨f2,g2⟩:=h2
 obtain ⟨σ0,st0,l0,y0,hS0,le0,k0,q0,r0⟩:=Ev.rdr_ty 9 22 _ Ev.ty22 f0 _ _ g0 σ _ hS
 obtain ⟨σ1,st1,l1,y1,hS1,le1,k1,q1,r1⟩:=Ev.rdr_ty 9 23 _ Ev.ty23 f1 _ _ g1 σ0 _ hS0
 obtain ⟨σ2,st2,l2,y2,hS2,le2,k2,q2,r2⟩:=Ev.rdr_ty 9 3 _ Ev.ty3 f2 _ _ g2 σ1 _ hS1
 obtain ⟨x,P,rfl,hx,hokP,hPl⟩:=Ev.ins_of r0
 obtain ⟨b,rfl,hb4,hb8⟩:=Ev.bytes_of r1
 obtain ⟨r,rfl⟩:=Ev.int_of r2
 obtain ⟨k,hk⟩:=Ev.runs_open hS2.rel.wf (Ev.holdsAll_fr ((k0.trans k1).trans k2) held0) (hx.fr (k1.trans k2)) hokP hPl hb4 hb8 r
 refine Ev.open_lawO order Ev.F_ok Ev.list0 (by decide) Ev.known (Nat.le_of_ble_eq_true (by kernel_rfl)) hS2 ?_ hk
 exact .cons (Ev.RelV.sc ((Ev.all2_one q0).mono (le1.trans le2))) (.cons (.agg (q1.imp fun _ _ h=>h.mono le2)) (.cons (Ev.RelV.sc (Ev.all2_one q2)) .nil))
theorem contract (H:Type) (enc:TypeId×Value→H) (W:World) (base:Nat) (args:Array Value) (ds gs:List (DataW H)) (before:List MemPlace)
  (hval:∀ (j:Nat) t v,Tryz.f3.params[j]?=some t→args[j]?=some v→Value.okWide Tryz.prog W .any base t v)
  (hW:DataW.Whole enc Tryz.prog Tryz.f3.params.toList Rows.traceColumnsSpec.vars false W args.toList ds gs before) (hL:laidMetH Tryz.prog Rows.traceColumnsRow.laid W) :
  Calls Tryz.prog 3 args W fun e W'=>∃ v,e=.returned v∧Rows.traceColumnsSpec.post enc Tryz.prog Tryz.f3 false true false false W args v W':=by
 have hW':=hW
 obtain ⟨p,q,hA0,hV,rfl,hfz,hnd⟩:=hW
 have hA:DataW.TrodAll enc Tryz.prog W 0 (fun _=>true) true Tryz.f3.params.toList args.toList ds p:=hA0
 rw [Tryz.params3] at hA hval
 obtain ⟨v0,vs0,d0,ds0,p0,q0,hargs0,rfl,rfl,h0,r0⟩:=trodAll_cons hA
 obtain ⟨v1,vs1,d1,ds1,p1,q1,hargs1,rfl,rfl,h1,r1⟩:=trodAll_cons r0
 obtain ⟨v2,vs2,d2,ds2,p2,q2,hargs2,rfl,rfl,h2,r2⟩:=trodAll_cons r1
 obtain ⟨e0,rfl,rfl⟩:=trodAll_nil r2
 have hargs:args.toList=[v0,v1,v2]:=by
  rw [hargs0,hargs1,hargs2,e0]
 obtain rfl:args=#[v0,v1,v2]:=by
  cases args;simp only at hargs;rw [hargs]
 obtain ⟨rfl,rfl⟩:=trodVars_none hV
 obtain ⟨a0,len0,cap0,rfl⟩:=okWide_slice Tryz.underlying22 (hval 0 22 v0 rfl rfl)
 obtain ⟨cs1,rfl,_⟩:=Ev.okWide_array Tryz.underlying23 (hval 1 23 v1 rfl rfl)
 obtain ⟨n2,rfl⟩:=okWide_int Tryz.underlying3 (hval 2 3 v2 rfl rfl)
 simp only [List.append_nil] at hW'
 refine (walk hL h0 h1 h2).mono fun e W' ⟨he,hb,hf⟩=>?_
 subst he
 have hlt:∀ x∈p0 ++ (p1 ++ p2),x.block<W.heap.size:=fun x hx=>by simpa using hW'.lt x hx
 have t0:=Below.trod laidOut readable22.1 readable22.2 h0 hb (fun x hx=>hlt x (by simp [hx]))
 have t1:=Below.trod laidOut readable23.1 readable23.2 h1 hb (fun x hx=>hlt x (by simp [hx]))
 have t2:=Below.trod laidOut readable3.1 readable3.2 h2 hb (fun x hx=>hlt x (by simp [hx]))
 exact ⟨_,rfl,_,_,_,[],p0 ++ (p1 ++ p2),[],hW',trodAll_cons_mk (shut_bool Tryz.underlying4 _) trodAll_mk0,trodAll_mk3 t0 t1 t2,rfl,hb.frame _,fun h=>by cases h⟩
noncomputable def laidWorld (os:Os):World:=Ev.laidWorld Tryz.prog os Rows.traceColumnsRow.laid 7
abbrev wit:Array Value:=#[.slice none 0 0,.agg #[.int .u8 0,.int .u8 0,.int .u8 0,.int .u8 0],.int .i64 0]
theorem laid_met (os:Os):laidMet Tryz.prog Rows.traceColumnsRow.laid ((laidWorld os).forCall (fun _ _=>0) ⟨#[],wit,[]⟩).memory :=
 laidMet_of_run' 8 (by kernel_rfl) (by kernel_rfl)
theorem reads (os:Os) {H:Type} (enc:TypeId×Value→H):∃ places,DataW.whole enc Tryz.prog ((laidWorld os).forCall (fun _ _=>0) ⟨#[],wit,[]⟩).memory Tryz.f3.params.toList Rows.traceColumnsSpec.vars false (wit:Array Value).toList 8=some ([.nil,.agg [.lit (.int .u8 0),.lit (.int .u8 0),.lit (.int .u8 0),.lit (.int .u8 0)],.lit (.int .i64 0)],[],places) :=
 ⟨[],by kernel_rfl⟩
set_option maxRecDepth 100000 in
theorem lifted (os:Os) (started:os.Started) (H:Type) (enc:TypeId×Value→H) (F:Stop.Interp) :
  ReturnsInHanded {} Tryz.checked os 3 .any ((OpenSpec.ofChange Rows.traceColumnsSpec).preRow enc Tryz.prog Tryz.f3 Rows.traceColumnsRow.domain false Rows.traceColumnsRow.laid) (((OpenSpec.ofChange Rows.traceColumnsSpec).at F).post enc Tryz.prog Tryz.f3 false true false false):=by
 obtain ⟨places,hx⟩:=reads os enc
 refine returnsInHanded_of_row (C:=Tryz.checked) (s:=OpenSpec.ofChange Rows.traceColumnsSpec) own started (by kernel_rfl) Tryz.func3
  (witness_row_atRef (enc:=enc) (C:=Tryz.checked) false (laidWorld os) wit rfl (by kernel_rfl) (by kernel_rfl) (by kernel_rfl)
   (OpenSpec.preRow_of_cond 8 hx (by kernel_rfl) (fun k hk=>by cases hk) (by kernel_rfl) (laid_met os))) ?_
 intro W base args ds gs before hval hW _ _ _ hL _ _
 exact contract H enc W base args ds gs before hval hW hL
theorem said:Rows.TraceColumnsSaid :=
 OpenClaim.holds_of_cond 3 Tryz.f3 rfl rfl rfl rfl rfl rfl rfl ⟨rfl,rfl,rfl,rfl,rfl⟩ rfl rfl rfl rfl rfl (by kernel_rfl) Tryz.func3 (by kernel_rfl)
  (of_decide_eq_true (by kernel_rfl)) (by unfold Func.isWrapper;first | (rw [if_pos (by decide +kernel)];kernel_rfl) | (rw [if_neg (by decide +kernel)];exact ⟨rfl,rfl⟩))
  (fun os started H enc _ F=>by rw [OpenClaim.pre_eq_preRow];exact lifted os started H enc F)
theorem plain (f:FuncId) (fn:Func) (hf:Tryz.pinned.checked.prog.funcNamed "attestor/attestorlaw29.TraceColumns"=some f) (hfn:Tryz.pinned.checked.prog.funcs[f]?=some fn) :
  false=Tryz.pinned.checked.prog.looks []∧∀ (j:Nat) t,fn.params[j]?=some t→Tryz.pinned.checked.prog.wantsStandIn t=false:=by
 obtain rfl:f=3:=Option.some.inj ((show Tryz.prog.funcNamed "attestor/attestorlaw29.TraceColumns"=some 3 by kernel_rfl).symm.trans hf) |>.symm
 obtain rfl:fn=Tryz.f3:=(Option.some.inj (Tryz.func3.symm.trans hfn)).symm
 refine ⟨by kernel_rfl,fun j t ht=>?_⟩
 rw [Tryz.params3] at ht
 have h1:(#[22,23,3]:Array TypeId).toList.all (fun t=>!Tryz.prog.wantsStandIn t)=true:=by kernel_rfl
 have h2:=List.all_eq_true.1 h1 t (Array.mem_toList_iff.2 (Array.mem_of_getElem? ht))
 exact (show Tryz.prog.wantsStandIn t=false by simpa using h2)
theorem card:Rows.TraceColumnsCardSaid :=
 Claim7.holds_tied_plain_at .later [] _ _ _ _ said (fun _ h=>by cases h) (by kernel_rfl) (fun _ h=>by cases h) traceColumns_row_tie rfl ⟨rfl,rfl⟩ (by kernel_rfl) rfl plain (by kernel_rfl)
end Go.Proofs.YtkneccbdfpnnlaaGreatDoor.traceColumns
