/-
  LogKept holds of every input of bulk at most 1048576; the listed tables are tied.
-/
import Derived.Test.YtaanpcjkflhomaaGreatDoorCards
import Derived.Test.YtaanpcjkflhomaaGreatDoorTie
import Derived.Test.YtaanpcjkflhomaaGreatDoorBunA
import Derived.Test.YtaanpcjkflhomaaGreatDoorLogU
set_option maxHeartbeats 20000000
set_option maxRecDepth 100000
set_option linter.unusedSimpArgs false
set_option linter.unusedVariables false
namespace Go.Proofs.YtaanpcjkflhomaaGreatDoor.topLogKept
open Go.ChangeShapes Go.WideShapes Go.ChangeAt Go.RowKit
def Z0:Array Value:= #[.agg #[.slice none 0 0,.slice none 0 0,.slice none 0 0],.slice none 0 0,.int .i64 0]
theorem own:ownKnob Tryz.prog.godebug=none:=by kernel_rfl
theorem laid_out:laidOutB Tryz.prog=true:=by kernel_rfl
theorem env_shaped {W:World} (h:W.ShapedOpen Tryz.prog):Env W:=Tryz.laysM146.s1_3 W h
theorem contract (H:Type) (enc:TypeId×Value→H) (W:World) (base:Nat) (args:Array Value) (ds gs:List (DataW H)) (before:List MemPlace)
  (hval:∀(j:Nat) t v,Tryz.f11.params[j]? =some t→args[j]? =some v→Value.okWide Tryz.prog W .any base t v)
  (hW:DataW.Whole enc Tryz.prog Tryz.f11.params.toList Rows.logKeptSpec.vars false W args.toList ds gs before) (hk:Rows.uptoSmall H (ds++gs)=true) (hS:W.ShapedOpen Tryz.prog):
  Calls Tryz.prog 11 args W fun e W'=>∃v,e= .returned v∧Rows.logKeptSpec.post enc Tryz.prog Tryz.f11 false true false false W args v W':=by
 have hW':=hW
 obtain⟨p,q,hA0,hV,rfl,hfz,hnd⟩:=hW
 have hA:DataW.TrodAll enc Tryz.prog W 0 (fun _=>true) true Tryz.f11.params.toList args.toList ds p:=hA0
 rw[Tryz.params11] at hA hval
 obtain⟨v0,vs0,d0,ds0,p0,q0,hargs,rfl,rfl,h0,r0⟩:=trodAll_cons hA
 obtain⟨v1,vs1,d1,ds1,p1,q1,rfl,rfl,rfl,h1,r1⟩:=trodAll_cons r0
 obtain⟨v2,vs2,d2,ds2,p2,q2,rfl,rfl,rfl,h2,r2⟩:=trodAll_cons r1
 obtain⟨rfl,rfl,rfl⟩:=trodAll_nil r2
 obtain rfl:args= #[v0,v1,v2]:=by cases args;simp_all
 obtain⟨rfl,rfl⟩:=trodVars_none hV
 have hB0:Rows.uptoBulk d0≤1048576:=Dz hk (by simp)
 obtain⟨x0,a01,a02,a03,c01,c02,c03,rfl,g01,g02,g03,_⟩:=Gb (hval 0 26 v0 rfl rfl) h0 hB0
 have hB1:Rows.uptoBulk d1≤1048576:=Dz hk (by simp)
 obtain⟨a11,c11,x1,rfl,g13,g11,g12,g14⟩:=Axw (hval 1 62 v1 rfl rfl) h1 hB1
 obtain⟨s2,rfl,rfl,rfl,ws2⟩:=open_int Tryz.underlying3 (hval 2 3 v2 rfl rfl) h2
 have hs2:=bounds_i64 ws2
 refine(Of x0 a01 a02 a03 c01 c02 c03 a11 c11 x1 s2 W g01 g02 g03 g11 g12 g13 g14 hs2 (env_shaped hS)).mono fun e W' ⟨he,hg⟩=> ?_
 subst he
 exact⟨_,rfl,Fp laid_out (by kernel_rfl) rfl rfl Tryz.underlying4 hW' rfl hg⟩
theorem reads (os:Os) {H:Type} (enc:TypeId×Value→H):∃places,DataW.whole enc Tryz.prog ((World.laidAll Tryz.prog os Rows.logKeptUptoRow.laid).forCall (fun _ _=>0) ⟨#[],Z0,[]⟩).memory Tryz.f11.params.toList Rows.logKeptSpec.vars false Z0.toList 8=some ([.agg [.nil,.nil,.nil],.nil,.lit (.int .i64 0)],[],places):=
 ⟨[],by kernel_rfl⟩
theorem lifted (os:Os) (started:os.Started) (H:Type) (enc:TypeId×Value→H) (F:Stop.Interp):
  ReturnsInHanded {} Tryz.checked os 11 .any ((Rows.OpenSpec.upto Rows.logKeptSpec).preRow enc Tryz.prog Tryz.f11 Rows.logKeptUptoRow.domain false Rows.logKeptUptoRow.laid) (((Rows.OpenSpec.upto Rows.logKeptSpec).at F).post enc Tryz.prog Tryz.f11 false true false false):=by
 obtain⟨places,hx⟩:=reads os enc
 refine returnsInHanded_of_row (C:=Tryz.checked) (s:=Rows.OpenSpec.upto Rows.logKeptSpec) own started (by kernel_rfl) Tryz.func11
  (Dg (enc:=enc) (C:=Tryz.checked) false Z0 (World.shaped_of_ZipB (by kernel_rfl) (by kernel_rfl)) (by kernel_rfl)
   (OpenSpec.preRow_of_cond 8 hx (by kernel_rfl) (fun k hk=>by cases hk;kernel_rfl) (by kernel_rfl) (by
    rw[MakeChecks.laidMetH_plain _ _ _ (by kernel_rfl)]
    exact laidMet_laidAll _ (by kernel_rfl) (by kernel_rfl)))) ?_
 intro W base args ds gs before hval hW _ hcond _ _ hS _
 exact contract H enc W base args ds gs before hval hW (hcond _ rfl) hS
theorem joinedA:(Rows.logKeptUptoRow.inPlace == Tryz.pinned.checked.prog.inPlace 11)=true:=by kernel_rfl
theorem joinedB:(Rows.logKeptUptoRow.unfollowed == Tryz.pinned.checked.prog.unfollowed 11)=true:=by kernel_rfl
theorem joinedC:(Rows.logKeptUptoRow.recurses == Tryz.pinned.checked.prog.recurses 11)=true:=by kernel_rfl
theorem joinedD:(Rows.logKeptUptoRow.named == Tryz.pinned.checked.prog.varsNamed 11)=true:=by kernel_rfl
theorem joined:joinedFacts Tryz.pinned.checked.prog 11 Tryz.f11 (Rows.OpenSpec.upto Rows.logKeptSpec).bare Rows.logKeptUptoRow=true:=by
 unfold joinedFacts
 rw[joinedA,joinedB,joinedC,joinedD]
 kernel_rfl
theorem said:Rows.LogKeptUptoSaid:=
 OpenClaim.holds_of_cond 11 Tryz.f11 rfl rfl rfl rfl rfl rfl rfl ⟨rfl,rfl,rfl,rfl,rfl⟩ rfl rfl rfl rfl rfl (by kernel_rfl) Tryz.func11 joined
  (of_decide_eq_true (by kernel_rfl)) (by unfold Func.isWrapper;first|(rw[zp (by decide+kernel)];kernel_rfl)|(rw[zq (by decide+kernel)];exact⟨rfl,rfl⟩))
  (fun os started H enc _ F=>by rw[OpenClaim.pre_eq_preRow];exact lifted os started H enc F)
theorem plain (f:FuncId) (fn:Func) (hf:Tryz.pinned.checked.prog.funcNamed "mailcoach/mailcoachlaw.LogKept" =some f) (hfn:Tryz.pinned.checked.prog.funcs[f]? =some fn):
  true=Tryz.pinned.checked.prog.looks []∧∀(j:Nat) t,fn.params[j]? =some t→Tryz.pinned.checked.prog.wantsStandIn t=false:=by
 obtain rfl:f=11:=Option.some.inj ((show Tryz.prog.funcNamed "mailcoach/mailcoachlaw.LogKept" =some 11 by kernel_rfl).symm.trans hf) |>.symm
 obtain rfl:fn=Tryz.f11:=(Option.some.inj (Tryz.func11.symm.trans hfn)).symm
 refine⟨by kernel_rfl,fun j t ht=> ?_⟩
 have hall:(Tryz.f11.params.toList.all fun u=> !Tryz.prog.wantsStandIn u)=true:=by kernel_rfl
 have:=List.all_eq_true.1 hall t (Array.mem_toList_iff.2 (Array.mem_of_getElem? ht))
 exact(show Tryz.prog.wantsStandIn t=false by simpa using this)
theorem card:Rows.LogKeptUptoCardSaid:=
 Claim7.holds_tied_plain_at .later [] _ _ _ _ said (fun _ h=>by cases h) (by kernel_rfl) (fun _ h=>by cases h) logKeptUpto_row_tie rfl ⟨rfl,rfl⟩ (by kernel_rfl) rfl plain (by kernel_rfl)
end Go.Proofs.YtaanpcjkflhomaaGreatDoor.topLogKept
