/-
  Walks of state.Begin and of the reference BeginOf.
-/
import Derived.Test.YtaanpcjkflhomaaGreatDoorBunF
set_option maxHeartbeats 20000000
set_option maxRecDepth 100000
set_option linter.unusedSimpArgs false
set_option linter.unusedVariables false
namespace Go.Proofs.YtaanpcjkflhomaaGreatDoor
open Go.RowKit
theorem Yz (p:Ab) (p1 p2 p3:Option Addr) (q1 q2 q3:Nat) (w:World) (hE:Env w) (hp:Az w 0 w.heap.size p1 p2 p3 p) (hps:Ai p):
  Calls Tryz.prog 85 #[Bc p p1 p2 p3 q1 q2 q3] w fun e w'=>∃a c rows,e= .returned (.tuple #[Ac (Hq p) a none none c 0 0,.int .i64 (Bf p)])∧Ax w' w.heap.size w'.heap.size a none none rows (Hq p)∧Below w.heap.size w w':=by
 have hql:=hps.queues
 have HS:=zh hps;clear hps
 have hbx:∀W,Below ((w.alloc (.cells #[.slice p1 p.posts.length q1,.slice p2 p.queues.length q2,.slice p3 p.binds.length q3] 26)).alloc (.cells zeroCells 31)).heap.size ((w.alloc (.cells #[.slice p1 p.posts.length q1,.slice p2 p.queues.length q2,.slice p3 p.binds.length q3] 26)).alloc (.cells zeroCells 31)) W→
   Az W 0 W.heap.size p1 p2 p3 p∧(W.cell? ⟨w.heap.size,0,none⟩=some (.slice p1 p.posts.length q1)∧W.cell? ⟨w.heap.size,1,none⟩=some (.slice p2 p.queues.length q2)∧W.cell? ⟨w.heap.size,2,none⟩=some (.slice p3 p.binds.length q3))∧Bk W (w.heap.size+1) 31 zeroCells∧Below w.heap.size w W:=fun W hW=>by
  have h:=G6 hp q1 q2 q3 26 W (((zb _ _).alloc (zn _) _).trans (hW.mono (by simp)))
  exact⟨h.1.wider (zn _) (by have:=hW.size;simp at this⊢;omega),h.2.1,(Bk.new_at _ _ _ (by simp)).below hW (by simp),h.2.2⟩
 unfold zeroCells at hbx
 unfold Bc
 have HV:=zh hE;clear hE hp
 go_enter Tryz.func85,Tryz.ntmps85
 obtain⟨_,⟨m20,m21,m22⟩,_,_⟩:=hbx _ (zb _ _)
 have HBX:=zh hbx;clear hbx
 go_wp2_with fail
 generalize ((w.alloc (.cells #[.slice p1 p.posts.length q1,.slice p2 p.queues.length q2,.slice p3 p.binds.length q3] 26)).alloc (.cells #[.slice none 0 0,.slice none 0 0,.slice none 0 0,.int .i64 0,.int .i64 0,.int .i64 0,.int .i64 0,.int .i64 0] 31))=W0 at *
 refine(Ku p p1 p2 p3 q1 q2 q3 0 W0 (Av (HBX.out W0 (zb _ _)).2.2.2 HV.out) ((HBX.out W0 (zb _ _)).1) HS.out).mono ?_
 rintro e W1 ⟨rfl,hB1⟩
 have HB1:=zh hB1;clear hB1 m20 m21 m22
 obtain⟨_,⟨m20,m21,m22⟩,hbk,hbelow⟩:=HBX.out _ HB1.out
 by_cases hc:Bf p=0
 ·have b1:(Bf p != 0)=false:=by simp[hc]
  have HC:Hid (Bf p=0):=hc
  have HR:Hid (Hq p=Cx p):=(by simp[Hq,hc]:Hq p=Cx p)
  have hmk:=Aco p.queues.length (by omega)
  clear hc
  obtain⟨k0,k1,k2,k3,k4,k5,k6,k7,f0,f1,f2,f3,f4,f5,f6,f7,hlt⟩:=Af hbk
  go_wp2_with fail
  refine bodyPost_ret (v:= .tuple #[Ac (Cx p) (some ⟨W1.heap.size,0,none⟩) none none p.queues.length 0 0,.int .i64 0]) (by simp[results,Tryz.results85,go_sem,Ac,Ag,Cx,k0,k1,k2,k3,k4,k5,k6,k7,hlt]) rfl
   ⟨some ⟨W1.heap.size,0,none⟩,p.queues.length,M3 p,by rw[HR.out,HC.out],?_,?_⟩
  ·rw[HR.out]
   refine Af3 (Sl.of_bk (cs:=(List.replicate p.queues.length (Value.slice none 0 0)).toArray) (t:=50) ?_ hbelow.size (by simp[World.setCell]) (by simp))
   rw[List.toArray_replicate]
   exact Bk.new_at _ _ _ (by simp[World.setCell])
  ·exact(Ak hbelow (by omega) _ _ _ _ _ _ _ _).alloc (by simpa [World.setCell] using hbelow.size) _
 ·have b1:(Bf p != 0)=true:=by simp[hc]
  have HR:Hid (Hq p=Ay):=(by simp[Hq,hc]:Hq p=Ay)
  obtain⟨k0,k1,k2,k3,k4,k5,k6,k7,f0,f1,f2,f3,f4,f5,f6,f7,hlt⟩:=Af hbk
  clear hc
  go_wp2_with fail
  refine bodyPost_ret (v:= .tuple #[Ac Ay none none none 0 0 0,.int .i64 (Bf p)]) (by simp[results,Tryz.results85,go_sem,Ac,Ag,Ay,k0,k1,k2,k3,k4,k5,k6,k7,hlt]) rfl
   ⟨none,0,[],by rw[HR.out],by rw[HR.out];exact Ki _ _ _,Ak hbelow (by omega) _ _ _ _ _ _ _ _⟩
end Go.Proofs.YtaanpcjkflhomaaGreatDoor
