/-
  replyBegun answers true: what must be in any case of replies.
-/
import Derived.Test.YtaanpcjkflhomaaGreatDoorBunCC
import Derived.Test.YtaanpcjkflhomaaGreatDoorBunT
import Derived.Test.YtaanpcjkflhomaaGreatDoorBunE
import Derived.Test.YtaanpcjkflhomaaGreatDoorNX
set_option linter.unusedSimpArgs false
set_option linter.unusedVariables false
namespace Go.Proofs.YtaanpcjkflhomaaGreatDoor
open Go Go.RowKit
set_option maxRecDepth 100000
def rejC0 : StateD := { busyS with outs := [],dropped := 1 }
def rejX : StateD := { busyS with ready := [[letterP 2 bTwo,letterP 3 bThree],[],[⟨4,kXY,bOne,false,1⟩]],outs := [],nextSeq := 5,came := 5,dropped := 1 }
def leaX : StateD := { rejX with takers := [⟨-1,1⟩,⟨-1,2⟩] }
theorem busy_out5 : outK busyS 5 = some 0 := by decide
theorem dying1 {x : ItemD} (hk : x.key = kXY) (hd : x.deaths = 0) : dyingP officeP 0 x = [⟨2,kXY,x.body,1⟩] := by
 have h := dying2 (b := x.body) (n := x.seq)
 rw [← h]
 unfold dyingP
 rw [hk,hd]
 rfl
theorem rej_settle : settleP officeP rejC0 [⟨2,kXY,bOne,1⟩] = rejX := by
 refine settle_of (n := 1) ?_ (by decide)
 have hp : pushL (lineAt (seqd rejC0) 2) (itemOf rejC0 ⟨2,kXY,bOne,1⟩) = [⟨4,kXY,bOne,false,1⟩] := rfl
 have hl : layP officeP (seqd rejC0) 2 (itemOf rejC0 ⟨2,kXY,bOne,1⟩) = (rejX,[]) := by
  unfold layP
  rw [hp,if_pos (by decide)]
  rfl
 show ((layP officeP (seqd rejC0) 2 (itemOf rejC0 ⟨2,kXY,bOne,1⟩)).1,_ ++ (layP officeP (seqd rejC0) 2 (itemOf rejC0 ⟨2,kXY,bOne,1⟩)).2) = _
 rw [hl]
 rfl
theorem rej_err : rejectErr officeP busyS 5 = 0 := by unfold rejectErr; rw [if_neg (by rw [busy_right]; decide),busy_out5,if_neg (by simp),if_neg (by decide)]
theorem rej_cB : rejectC officeP busyS 0 ⟨5,1,0,letterP 1 bOne⟩ true = (rejC0,[⟨2,kXY,bOne,1⟩]) := by
 have hp : pushL (lineAt (withoutS busyS 0) 0) (againI (letterP 1 bOne)) = [againI (letterP 1 bOne),letterP 2 bTwo,letterP 3 bThree] := rfl
 unfold rejectC
 rw [if_pos rfl]
 show layP officeP (withoutS busyS 0) 0 (againI (letterP 1 bOne)) = _
 unfold layP
 rw [hp,if_neg (by decide),show headL [againI (letterP 1 bOne),letterP 2 bTwo,letterP 3 bThree] = againI (letterP 1 bOne) from rfl,dying1 rfl rfl]
 rfl
theorem rej_officeB : rejectErr officeP busyS 5 = 0 ∧ rejectS officeP busyS 5 true = rejX := by
 refine ⟨rej_err,?_⟩
 unfold rejectS rejectD
 rw [if_pos rej_err,busy_out5]
 show settleP officeP (rejectC officeP busyS 0 ⟨5,1,0,letterP 1 bOne⟩ true).1 (rejectC officeP busyS 0 ⟨5,1,0,letterP 1 bOne⟩ true).2 = _
 rw [rej_cB,rej_settle]
theorem lea_list : leaveL officeP 1 busyS.outs busyS = (rejX,0) := by
 show (if (1 : Int) = 1 then (if rejectErr officeP busyS 5 = 0 then leaveL officeP 1 [] (rejectS officeP busyS 5 true) else (zeroS,rejectErr officeP busyS 5)) else leaveL officeP 1 [] busyS) = _
 rw [if_pos rfl,if_pos rej_err,rej_officeB.2]
 rfl
theorem lea_office : leaveErr officeP busyS 1 = 0 ∧ leaveS officeP busyS 1 = leaX := by
 have h : leaveErr officeP busyS 1 = 0 := by unfold leaveErr; rw [if_neg (by rw [busy_right]; decide),if_neg (by decide),lea_list]
 refine ⟨h,?_⟩
 unfold leaveS
 rw [if_pos h,lea_list]
 rfl
theorem cLeave (t0 : Int) (X : StateD) (e : Int) (h : leaveErr officeP busyS t0 = e ∧ leaveS officeP busyS t0 = X) (_ : -9 ≤ t0) (b1 b2 b3 lo g0 g1 g2 g3 : Nat) (w : World) (hE : Env w) (ho : OfficeIn w b1 b2 b3) (hs : BusyAt w lo g0 g1 g2 g3) :
  Calls Tryz.prog 21 #[officeV b1 b2 b3,busyV g1 g2 g3,.int .i64 t0] w (StPost X e w) := by
 have := Leave_any officeP busyS t0 _ _ _ _ _ _ 3 3 5 3 1 2 (busyRowD g0) w hE ho.plan office_small hs.state busy_small busy_ints
 rw [h.1,h.2] at this
 exact this
end Go.Proofs.YtaanpcjkflhomaaGreatDoor
