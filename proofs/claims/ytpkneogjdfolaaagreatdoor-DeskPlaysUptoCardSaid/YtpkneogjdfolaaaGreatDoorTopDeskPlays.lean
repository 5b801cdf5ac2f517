/-
  DeskPlays holds of every input, where the arguments are of bulk at most 1048576 (the second form's condition); the listed tables are tied to the program's text.
-/
import Derived.Test.YtpkneogjdfolaaaGreatDoorCards
import Derived.Test.YtpkneogjdfolaaaGreatDoorTie
import Derived.Stop.LaidErr
import Derived.Test.YtpkneogjdfolaaaGreatDoorBunKH
set_option maxHeartbeats 20000000
set_option maxRecDepth 100000
set_option linter.unusedSimpArgs false
set_option linter.unusedVariables false
namespace Go.Proofs.YtpkneogjdfolaaaGreatDoor.topDeskPlays
open Go.ChangeShapes Go.WideShapes Go.ChangeAt Go.RowKit
open Go.ChangeMaps (open_string shut_string)
theorem own:ownKnob Tryz.prog.godebug=none:=by kernel_rfl
theorem laid_out:laidOutB Tryz.prog=true:=by kernel_rfl
theorem gP:Tryz.prog.globalNamed "internal/strconv.uint64pow10" =some 1:=by kernel_rfl
theorem gS:Tryz.prog.globalNamed "strconv.ErrSyntax" =some 2:=by kernel_rfl
theorem gR:Tryz.prog.globalNamed "strconv.ErrRange" =some 3:=by kernel_rfl
theorem star: "*" ++ "errors.errorString" = "*errors.errorString" :=by decide
theorem rowE(u:TypeId)(h:Tryz.prog.typeName? 3 u=some "*errors.errorString"):u=250:=
 typeName_ptr_named (nm:= "errors.errorString") (by rw[star];kernel_rfl) (by kernel_rfl) (by decide) u (by rw[star];exact h)
theorem env_shaped0{W:zW}(h:W.ShapedOpen Tryz.prog):Env W:=Tryz.laysM146.s1_3 W h
theorem env_shaped{W:zW}(hS:W.ShapedOpen Tryz.prog)(hL:laidMetH Tryz.prog Rows.deskPlaysUptoRow.laid W):Qg W:=by
 rw[MakeChecks.laidMetH_plain _ _ _ (by kernel_rfl)] at hL
 have h3:laidMet Tryz.prog [("internal/strconv.uint64pow10",Lib.tabData .u64 Lib.pow10Tab),("unicode/utf8.acceptRanges",Rows.laid_unicode_utf8_acceptRanges),("strconv.ErrRange",Rows.laid_strconv_ErrRange),("strconv.ErrSyntax",Rows.laid_strconv_ErrSyntax),("unicode/utf8.first",Rows.laid_unicode_utf8_first)] W:=hL.tail.tail
 obtain⟨a0,s0,hv0,-⟩:=laid_sentinel h3.tail.tail gR (by kernel_rfl) Tryz.underlying53 rowE Tryz.underlying250 Tryz.underlying252 rfl rfl Tryz.underlying9 (by kernel_rfl) (by kernel_rfl)
 obtain⟨a1,s1,hv1,-⟩:=laid_sentinel h3.tail.tail.tail gS (by kernel_rfl) Tryz.underlying53 rowE Tryz.underlying250 Tryz.underlying252 rfl rfl Tryz.underlying9 (by kernel_rfl) (by kernel_rfl)
 have hS1:W.cell? ⟨2,0,none⟩=some (.iface 250 (.pointer (some a1))):=by
  have h0:=World.var?_cell gS hv1 0
  simpa using h0
 have hR1:W.cell? ⟨3,0,none⟩=some (.iface 250 (.pointer (some a0))):=by
  have h0:=World.var?_cell gR hv0 0
  simpa using h0
 exact⟨env_shaped0 hS,Lib.tabIs_of_head gP (by kernel_rfl) Tryz.underlying215 Tryz.underlying191 (by kernel_rfl) (by kernel_rfl) h3,⟨_,_,hS1⟩,⟨_,_,hR1⟩⟩
theorem contract(H:Type)(enc:TypeId×Value→H)(W:zW)(base:Nat)(args:Array Value)(ds gs:List (DataW H))(before:List MemPlace)
  (hval:∀(j:Nat) t v,Tryz.f3.params[j]? =some t→args[j]? =some v→Value.okWide Tryz.prog W .any base t v)
  (hW:DataW.Whole enc Tryz.prog Tryz.f3.params.toList Rows.deskPlaysSpec.vars false W args.toList ds gs before) (hk:Rows.uptoSmall H (ds++gs)=true) (hS:W.ShapedOpen Tryz.prog) (hL:laidMetH Tryz.prog Rows.deskPlaysUptoRow.laid W):
  Calls Tryz.prog 3 args W fun e W'=>∃v,e= .returned v∧Rows.deskPlaysSpec.post enc Tryz.prog Tryz.f3 false true false false W args v W':=by
 have hW':=hW
 obtain⟨p,q,hA0,hV,rfl,hfz,hnd⟩:=hW
 have hA:DataW.TrodAll enc Tryz.prog W 0 (fun _=>true) true Tryz.f3.params.toList args.toList ds p:=hA0
 rw[Tryz.params3] at hA hval
 obtain⟨v0,vs0,d0,ds0,p0,q0,hargs,rfl,rfl,h0,r0⟩:=trodAll_cons hA
 obtain⟨v1,vs1,d1,ds1,p1,q1,rfl,rfl,rfl,h1,r1⟩:=trodAll_cons r0
 obtain⟨rfl,rfl,rfl⟩:=trodAll_nil r1
 obtain rfl:args= #[v0,v1]:=by cases args;simp_all
 obtain⟨rfl,rfl⟩:=trodVars_none hV
 have hB0:Rows.uptoBulk d0≤1048576:=Dn hk (by simp)
 obtain⟨x0,a01,a02,a03,c01,c02,c03,rfl,g01,g02,g03,_⟩:=Fj (hval 0 26 v0 rfl rfl) h0 hB0
 obtain⟨s1,rfl,rfl,rfl,ws1⟩:=open_string Tryz.underlying9 (hval 1 9 v1 rfl rfl) h1
 have hs1:s1.size≤1048576:=by
  have:=Gi hk (bytes:=s1.data.toList) (by simp)
  simpa using this
 refine(Y5 x0 a01 a02 a03 c01 c02 c03 s1 W g01 g02 g03 hs1 (env_shaped hS hL)).mono fun e W' ⟨he,hg⟩=> ?_
 subst he
 exact⟨_,rfl,E9 laid_out (by kernel_rfl) rfl rfl Tryz.underlying4 hW' rfl hg⟩
theorem reads(os:Os){H:Type}(enc:TypeId×Value→H):∃places,DataW.whole enc Tryz.prog ((World.laidAll Tryz.prog os Rows.deskPlaysUptoRow.laid).forCall (fun _ _=>0) ⟨#[],#[.agg #[.slice none 0 0,.slice none 0 0,.slice none 0 0],.string .empty],[]⟩).memory Tryz.f3.params.toList Rows.deskPlaysSpec.vars false (#[.agg #[.slice none 0 0,.slice none 0 0,.slice none 0 0],.string .empty]:Array Value).toList 8=some ([.agg [.nil,.nil,.nil],.lit (.string [])],[],places):=
 ⟨[],by kernel_rfl⟩
theorem lifted(os:Os)(started:os.Started)(H:Type)(enc:TypeId×Value→H)(F:Stop.Interp):
  ReturnsInHanded {} Tryz.checked os 3 .any ((Rows.OpenSpec.upto Rows.deskPlaysSpec).preRow enc Tryz.prog Tryz.f3 Rows.deskPlaysUptoRow.domain false Rows.deskPlaysUptoRow.laid) (((Rows.OpenSpec.upto Rows.deskPlaysSpec).at F).post enc Tryz.prog Tryz.f3 false true false false):=by
 obtain⟨places,hx⟩:=reads os enc
 refine returnsInHanded_of_row (C:=Tryz.checked) (s:=Rows.OpenSpec.upto Rows.deskPlaysSpec) own started (by kernel_rfl) Tryz.func3
  (Dc (enc:=enc) (C:=Tryz.checked) false #[.agg #[.slice none 0 0,.slice none 0 0,.slice none 0 0],.string .empty] (World.shaped_of_ZipB (by kernel_rfl) (by kernel_rfl)) (by kernel_rfl)
   (OpenSpec.preRow_of_cond 8 hx (by kernel_rfl) (fun k hk=>by cases hk;kernel_rfl) (by kernel_rfl) (by
    rw[MakeChecks.laidMetH_plain _ _ _ (by kernel_rfl)]
    exact laidMet_laidAll _ (by kernel_rfl) (by kernel_rfl)))) ?_
 intro W base args ds gs before hval hW _ hcond _ hL hS _
 exact contract H enc W base args ds gs before hval hW (hcond _ rfl) hS hL
theorem joinedA:(Rows.deskPlaysUptoRow.inPlace == Tryz.pinned.checked.prog.inPlace 3)=true:=by kernel_rfl
theorem joinedB:(Rows.deskPlaysUptoRow.unfollowed == Tryz.pinned.checked.prog.unfollowed 3)=true:=by kernel_rfl
theorem joinedC:(Rows.deskPlaysUptoRow.recurses == Tryz.pinned.checked.prog.recurses 3)=true:=by kernel_rfl
theorem joinedD:(Rows.deskPlaysUptoRow.named == Tryz.pinned.checked.prog.varsNamed 3)=true:=by kernel_rfl
theorem joined:joinedFacts Tryz.pinned.checked.prog 3 Tryz.f3 (Rows.OpenSpec.upto Rows.deskPlaysSpec).bare Rows.deskPlaysUptoRow=true:=by
 unfold joinedFacts
 rw[joinedA,joinedB,joinedC,joinedD]
 kernel_rfl
theorem said:Rows.DeskPlaysUptoSaid:=
 OpenClaim.holds_of_cond 3 Tryz.f3 rfl rfl rfl rfl rfl rfl rfl ⟨rfl,rfl,rfl,rfl,rfl⟩ rfl rfl rfl rfl rfl (by kernel_rfl) Tryz.func3 joined
  (of_decide_eq_true (by kernel_rfl)) (by unfold Func.isWrapper;first|(rw[zp (by decide+kernel)];kernel_rfl)|(rw[zq (by decide+kernel)];exact⟨rfl,rfl⟩))
  (fun os started H enc _ F=>by rw[OpenClaim.pre_eq_preRow];exact lifted os started H enc F)
theorem plain(f:FuncId)(fn:Func)(hf:Tryz.pinned.checked.prog.funcNamed "mailcoach/mailcoachlaw.DeskPlays" =some f)(hfn:Tryz.pinned.checked.prog.funcs[f]? =some fn):
  true=Tryz.pinned.checked.prog.looks []∧∀(j:Nat) t,fn.params[j]? =some t→Tryz.pinned.checked.prog.wantsStandIn t=false:=by
 obtain rfl:f=3:=Option.some.inj ((show Tryz.prog.funcNamed "mailcoach/mailcoachlaw.DeskPlays" =some 3 by kernel_rfl).symm.trans hf) |>.symm
 obtain rfl:fn=Tryz.f3:=(Option.some.inj (Tryz.func3.symm.trans hfn)).symm
 refine⟨by kernel_rfl,fun j t ht=> ?_⟩
 have hall:(Tryz.f3.params.toList.all fun u=> !Tryz.prog.wantsStandIn u)=true:=by kernel_rfl
 have:=List.all_eq_true.1 hall t (Array.mem_toList_iff.2 (Array.mem_of_getElem? ht))
 exact(show Tryz.prog.wantsStandIn t=false by simpa using this)
theorem card:Rows.DeskPlaysUptoCardSaid:=
 Claim7.holds_tied_plain_at .later [] _ _ _ _ said (fun _ h=>by cases h) (by kernel_rfl) (fun _ h=>by cases h) deskPlaysUpto_row_tie rfl ⟨rfl,rfl⟩ (by kernel_rfl) rfl plain (by kernel_rfl)
end Go.Proofs.YtpkneogjdfolaaaGreatDoor.topDeskPlays
