/-
  Walks of the reference: HeldOf; Held. Walk of the reference's CheckState.
  Two Outs, two takers, two states: are they the same? Walk of the reference's SameStates.
  Walk of state.Held. What the law's begin of states needs: Begin, Held and Check at the office.
-/
import Derived.Test.YtaanpcjkflhomaaGreatDoorBunA
import Derived.Test.YtaanpcjkflhomaaGreatDoorBunF
import Derived.Test.YtaanpcjkflhomaaGreatDoorStateE
import Derived.Test.YtaanpcjkflhomaaGreatDoorBunD
import Derived.Deep.RegionHeld3
import Derived.Deep.QuietTactic
import Derived.BigQuiet
import Derived.Deep.CutRange
import Derived.Test.YtaanpcjkflhomaaGreatDoorBunE
import Derived.IntWalk
import Derived.Test.YtaanpcjkflhomaaGreatDoorStateD
set_option maxHeartbeats 20000000
set_option maxRecDepth 100000
set_option linter.unusedSimpArgs false
set_option linter.unusedVariables false
namespace Go.Proofs.YtaanpcjkflhomaaGreatDoor
open Go.RowKit
end Go.Proofs.YtaanpcjkflhomaaGreatDoor
namespace Go.Proofs.YtaanpcjkflhomaaGreatDoor
open Go.RowKit
open Go.RowKit
def Ac0 (x y:Eh):Bool:=x.tag == y.tag && (x.taker == y.taker && (x.queue == y.queue && K9 x.item y.item))
theorem We {x y:Eh} :Ac0 x y=true↔x=y:=by
 obtain⟨a,b,c,d⟩:=x
 obtain⟨a',b',c',d'⟩:=y
 simp only[Ac0,Bool.and_eq_true,beq_iff_eq,Eh.mk.injEq,Rp]
def Qq (x y:B6):Bool:=x.queue == y.queue && x.atOnce == y.atOnce
theorem R8 {x y:B6} :Qq x y=true↔x=y:=by
 obtain⟨a,b⟩:=x
 obtain⟨a',b'⟩:=y
 simp only[Qq,Bool.and_eq_true,beq_iff_eq,B6.mk.injEq]
theorem Alu (x y:B6) (w:World):(Op.equalIn 10000 79 (.agg #[.int .i64 x.queue,.int .i64 x.atOnce]) (.agg #[.int .i64 y.queue,.int .i64 y.atOnce])).run Tryz.prog w= .ok (Qq x y) w:=by
 have u1:=Tryz.underlying3
 have a1:=Tryz.isAgg3
 have z1:=Tryz.sizeOf3
 have hS:Tryz.prog.underlying 79=some (.struct (Tryz.prog.fieldsOf 79)):=by kernel_rfl
 have hH:Tryz.prog.stoodInHeld 79=false:=by kernel_rfl
 rw[show(10000:Nat)=9999+1 from rfl,run_equalIn_agg w 9999 79 _ _ hS hH]
 simp only[Program.fieldsOf,Tryz.underlying79]
 unfold Qq
 go_simp
 by_cases h1:x.queue=y.queue<;>by_cases h2:x.atOnce=y.atOnce<;>simp[h1,h2]
@[go_sem ↓] theorem Ayu (x y:B6) (w:World):(binOp .neq 79 (.agg #[.int .i64 x.queue,.int .i64 x.atOnce]) (.agg #[.int .i64 y.queue,.int .i64 y.atOnce])).run Tryz.prog w= .ok (.bool (!Qq x y)) w:=by
 rw[run_neq_struct,Alu];rfl
@[go_sem ↓] theorem Av1 (x y:B6) (w:World):(binOp .eql 79 (.agg #[.int .i64 x.queue,.int .i64 x.atOnce]) (.agg #[.int .i64 y.queue,.int .i64 y.atOnce])).run Tryz.prog w= .ok (.bool (Qq x y)) w:=by
 rw[run_eql_struct,Alu];rfl
@[go_sem] theorem Auq:Tryz.prog.eqGuardType Tryz.prog.depth 79=false:=by kernel_rfl
theorem Aur (x y:Ap) (w:World):(Op.equalIn 9999 52 (.agg #[.int .i64 x.seq,.string x.key,.string x.body,.bool x.again,.int .i64 x.deaths]) (.agg #[.int .i64 y.seq,.string y.key,.string y.body,.bool y.again,.int .i64 y.deaths])).run Tryz.prog w= .ok (K9 x y) w:=by
 have u1:=Tryz.underlying3
 have a1:=Tryz.isAgg3
 have z1:=Tryz.sizeOf3
 have u2:=Tryz.underlying9
 have a2:=Tryz.isAgg9
 have z2:=Tryz.sizeOf9
 have u3:=Tryz.underlying4
 have a3:=Tryz.isAgg4
 have z3:=Tryz.sizeOf4
 have hS:Tryz.prog.underlying 52=some (.struct (Tryz.prog.fieldsOf 52)):=by kernel_rfl
 have hH:Tryz.prog.stoodInHeld 52=false:=by kernel_rfl
 rw[show(9999:Nat)=9998+1 from rfl,run_equalIn_agg w 9998 52 _ _ hS hH]
 simp only[Program.fieldsOf,Tryz.underlying52]
 unfold K9
 go_simp
 by_cases h1:x.seq=y.seq<;>by_cases h2:x.key.toList=y.key.toList<;>by_cases h3:x.body.toList=y.body.toList<;>by_cases h4:x.again=y.again<;>by_cases h5:x.deaths=y.deaths<;>simp[h1,h2,h3,h4,h5]
theorem Ayn (x y:Eh) (w:World):(Op.equalIn 10000 77 (.agg #[.int .i64 x.tag,.int .i64 x.taker,.int .i64 x.queue,.int .i64 x.item.seq,.string x.item.key,.string x.item.body,.bool x.item.again,.int .i64 x.item.deaths]) (.agg #[.int .i64 y.tag,.int .i64 y.taker,.int .i64 y.queue,.int .i64 y.item.seq,.string y.item.key,.string y.item.body,.bool y.item.again,.int .i64 y.item.deaths])).run Tryz.prog w= .ok (Ac0 x y) w:=by
 have u1:=Tryz.underlying3
 have a1:=Tryz.isAgg3
 have z1:=Tryz.sizeOf3
 have a4:=Tryz.isAgg52
 have z4:=Tryz.sizeOf52
 have hS:Tryz.prog.underlying 77=some (.struct (Tryz.prog.fieldsOf 77)):=by kernel_rfl
 have hH:Tryz.prog.stoodInHeld 77=false:=by kernel_rfl
 have hI:=Aur x.item y.item
 rw[show(10000:Nat)=9999+1 from rfl,run_equalIn_agg w 9999 77 _ _ hS hH]
 simp only[Program.fieldsOf,Tryz.underlying77]
 unfold Ac0
 go_simp
 by_cases h1:x.tag=y.tag<;>by_cases h2:x.taker=y.taker<;>by_cases h3:x.queue=y.queue<;>simp[h1,h2,h3,hI]<;>cases K9 x.item y.item<;>rfl
@[go_sem ↓] theorem Aze (x y:Eh) (w:World):(binOp .neq 77 (.agg #[.int .i64 x.tag,.int .i64 x.taker,.int .i64 x.queue,.int .i64 x.item.seq,.string x.item.key,.string x.item.body,.bool x.item.again,.int .i64 x.item.deaths]) (.agg #[.int .i64 y.tag,.int .i64 y.taker,.int .i64 y.queue,.int .i64 y.item.seq,.string y.item.key,.string y.item.body,.bool y.item.again,.int .i64 y.item.deaths])).run Tryz.prog w= .ok (.bool (!Ac0 x y)) w:=by
 rw[run_neq_struct,Ayn];rfl
@[go_sem] theorem Aw5:Tryz.prog.eqGuardType Tryz.prog.depth 77=false:=by kernel_rfl
end Go.Proofs.YtaanpcjkflhomaaGreatDoor
namespace Go.Proofs.YtaanpcjkflhomaaGreatDoor
open Go.RowKit
def Qg {α:Type} (eq:α→α→Bool):List α→List α→Bool
 | [],[]=>true
 |x::xs,y::ys=>eq x y && Qg eq xs ys
 |_,_=>false
theorem Qh {α:Type} {eq:α→α→Bool} (h:∀x y,eq x y=true↔x=y):∀ {l m:List α},Qg eq l m=true↔l=m
 | [],[]=>by simp[Qg]
 | [],y::ys=>by simp[Qg]
 |x::xs,[]=>by simp[Qg]
 |x::xs,y::ys=>by
  simp only[Qg,Bool.and_eq_true,List.cons.injEq,h,Qh h]
def Tf (s t:Aa):Bool:=Qg Ff s.ready t.ready && (Qg Ac0 s.outs t.outs && (Qg Qq s.takers t.takers && (s.nextSeq == t.nextSeq && (s.nextTag == t.nextTag && (s.came == t.came && (s.acked == t.acked && s.dropped == t.dropped))))))
theorem R7 {s t:Aa} :Tf s t=true↔s=t:=by
 obtain⟨a,b,c,d,e,f,g,h⟩:=s
 obtain⟨a',b',c',d',e',f',g',h'⟩:=t
 simp only[Tf,Bool.and_eq_true,beq_iff_eq,Aa.mk.injEq,Qh (fun x y=>Iq),Qh (fun x y=>We),Qh (fun x y=>R8)]
theorem Ea (s:Aa):Tf s s=true:=R7.2 rfl
theorem G1 {s t:Aa} (h:s≠t):Tf s t=false:=by rw[←Bool.not_eq_true,R7];exact h
structure Aza (w:World) (s t:Aa) (a1 a2 a3 b1 b2 b3:Option Addr) (c1 c2 c3 d1 d2 d3:Nat) (rows rowt:List Bq) (W:World):Prop where
 one:W.cell? ⟨w.heap.size,0,none⟩=some (.slice a1 s.ready.length c1)∧W.cell? ⟨w.heap.size,1,none⟩=some (.slice a2 s.outs.length c2)∧W.cell? ⟨w.heap.size,2,none⟩=some (.slice a3 s.takers.length c3)∧W.cell? ⟨w.heap.size,3,none⟩=some (.int .i64 s.nextSeq)∧W.cell? ⟨w.heap.size,4,none⟩=some (.int .i64 s.nextTag)∧W.cell? ⟨w.heap.size,5,none⟩=some (.int .i64 s.came)∧W.cell? ⟨w.heap.size,6,none⟩=some (.int .i64 s.acked)∧W.cell? ⟨w.heap.size,7,none⟩=some (.int .i64 s.dropped)
 two:W.cell? ⟨w.heap.size+1,0,none⟩=some (.slice b1 t.ready.length d1)∧W.cell? ⟨w.heap.size+1,1,none⟩=some (.slice b2 t.outs.length d2)∧W.cell? ⟨w.heap.size+1,2,none⟩=some (.slice b3 t.takers.length d3)∧W.cell? ⟨w.heap.size+1,3,none⟩=some (.int .i64 t.nextSeq)∧W.cell? ⟨w.heap.size+1,4,none⟩=some (.int .i64 t.nextTag)∧W.cell? ⟨w.heap.size+1,5,none⟩=some (.int .i64 t.came)∧W.cell? ⟨w.heap.size+1,6,none⟩=some (.int .i64 t.acked)∧W.cell? ⟨w.heap.size+1,7,none⟩=some (.int .i64 t.dropped)
 below:Below w.heap.size w W
 oneAt:Ax W 0 W.heap.size a1 a2 a3 rows s
 twoAt:Ax W 0 W.heap.size b1 b2 b3 rowt t
theorem Ak5 {w:World} {s t:Aa} {a1 a2 a3 b1 b2 b3:Option Addr} {rows rowt:List Bq} (c1 c2 c3 d1 d2 d3:Nat) (hs:Ax w 0 w.heap.size a1 a2 a3 rows s) (ht:Ax w 0 w.heap.size b1 b2 b3 rowt t) (t1 t2:TypeId) (W:World)
  (hW:Below ((w.alloc (.cells (Ag s a1 a2 a3 c1 c2 c3) t1)).alloc (.cells (Ag t b1 b2 b3 d1 d2 d3) t2)).heap.size ((w.alloc (.cells (Ag s a1 a2 a3 c1 c2 c3) t1)).alloc (.cells (Ag t b1 b2 b3 d1 d2 d3) t2)) W):
  Aza w s t a1 a2 a3 b1 b2 b3 c1 c2 c3 d1 d2 d3 rows rowt W:=by
 generalize hA:w.alloc (.cells (Ag s a1 a2 a3 c1 c2 c3) t1)=wA at hW
 have hsA:wA.heap.size=w.heap.size+1:=by rw[←hA];simp
 have kA:Bk wA w.heap.size t1 (Ag s a1 a2 a3 c1 c2 c3):=by rw[←hA];exact Bk.new _ _ _
 have bA:Below w.heap.size w wA:=by rw[←hA];exact(zb _ _).alloc (zn _) _
 have kB:=Bk.new wA t2 (Ag t b1 b2 b3 d1 d2 d3)
 have bB:Below wA.heap.size wA (wA.alloc (.cells (Ag t b1 b2 b3 d1 d2 d3) t2)):=(zb _ _).alloc (zn _) _
 have hsB:(wA.alloc (.cells (Ag t b1 b2 b3 d1 d2 d3) t2)).heap.size=wA.heap.size+1:=by simp
 have bW:=bB.trans (hW.mono bB.size)
 have k1:=kA.below bW (by omega)
 have k2:=kB.below hW (by omega)
 rw[hsA] at k2
 have bw:Below w.heap.size w W:=bA.trans (bW.mono (by omega))
 exact⟨⟨k1.cell 0,k1.cell 1,k1.cell 2,k1.cell 3,k1.cell 4,k1.cell 5,k1.cell 6,k1.cell 7⟩,⟨k2.cell 0,k2.cell 1,k2.cell 2,k2.cell 3,k2.cell 4,k2.cell 5,k2.cell 6,k2.cell 7⟩,bw,(hs.below bw (zn _)).wider (zn _) bw.size,(ht.below bw (zn _)).wider (zn _) bw.size⟩
theorem Wn {α:Type} {l m:List α} {k:Nat} (h1:k < l.length) (h2:k < m.length) (h:l.take k=m.take k) (he:l[k]=m[k]):l.take (k+1)=m.take (k+1):=by
 rw[List.take_succ_eq_append_getElem h1,List.take_succ_eq_append_getElem h2,h,he]
theorem Ul {α:Type} {l m:List α} (hl:l.length=m.length) (h:l.take l.length=m.take l.length):l=m:=by
 rw[List.take_length] at h
 rw[h,hl,List.take_length]
theorem Akh {n m:Nat} (h:((n:Int) != (m:Int))=false):n=m:=by
 have h:(n:Int)=(m:Int):=by simpa using h
 omega
def Ap4 {α:Type} (l m:List α) (W0:World) (i:Value) (wr:World):Prop:=
 ∃k:Nat,k≤l.length∧i= .int .i64 k∧l.take k=m.take k∧Below W0.heap.size W0 wr
theorem Di (s t:Aa) (a1 a2 a3 b1 b2 b3:Option Addr) (c1 c2 c3 d1 d2 d3:Nat) (rows rowt:List Bq) (w:World) (hs:Ax w 0 w.heap.size a1 a2 a3 rows s) (hss:Am s) (ht:Ax w 0 w.heap.size b1 b2 b3 rowt t) (hts:Am t):
  Calls Tryz.prog 20 #[Ac s a1 a2 a3 c1 c2 c3,Ac t b1 b2 b3 d1 d2 d3] w fun e w'=>e= .returned (.bool (Tf s t))∧Below w.heap.size w w':=by
 have hbx:=Ak5 c1 c2 c3 d1 d2 d3 hs ht 31 31
 unfold Ag at hbx
 unfold Ac Ag
 have HBX:=zh hbx
 have HSS:=zh hss
 have HTS:=zh hts
 have hl1:=hss.ready;have hl2:=hss.outs;have hl3:=hss.takers
 have hl4:=hts.ready;have hl5:=hts.outs;have hl6:=hts.takers
 clear hbx hs ht hss hts
 go_enter Tryz.func20,Tryz.ntmps20
 obtain⟨⟨m0,m1,m2,m3,m4,m5,m6,m7⟩,⟨n0,n1,n2,n3,n4,n5,n6,n7⟩,_,_,_⟩:=HBX.out _ (zb _ _)
 cases g0:((s.ready.length:Int) != (t.ready.length:Int))
 ·cases g1:((s.outs.length:Int) != (t.outs.length:Int))
  ·cases g2:((s.takers.length:Int) != (t.takers.length:Int))
   ·cases g3:(s.nextSeq != t.nextSeq)
    ·cases g4:(s.nextTag != t.nextTag)
     ·cases g5:(s.came != t.came)
      ·cases g6:(s.acked != t.acked)
       ·cases g7:(s.dropped != t.dropped)
        ·have HG:=zh (And.intro (Akh g0) (And.intro (Akh g1) (And.intro (Akh g2) (And.intro (show s.nextSeq=t.nextSeq by simpa using g3) (And.intro (show s.nextTag=t.nextTag by simpa using g4) (And.intro (show s.came=t.came by simpa using g5) (And.intro (show s.acked=t.acked by simpa using g6) (show s.dropped=t.dropped by simpa using g7))))))))
         go_wp2_with fail
         clear m0 m1 m2 m3 m4 m5 m6 m7 n0 n1 n2 n3 n4 n5 n6 n7 g0 g1 g2 g3 g4 g5 g6 g7
         generalize ((w.alloc (.cells #[Value.slice a1 s.ready.length c1,Value.slice a2 s.outs.length c2,Value.slice a3 s.takers.length c3,Value.int IntKind.i64 s.nextSeq,Value.int IntKind.i64 s.nextTag,Value.int IntKind.i64 s.came,Value.int IntKind.i64 s.acked,Value.int IntKind.i64 s.dropped] 31)).alloc (.cells #[Value.slice b1 t.ready.length d1,Value.slice b2 t.outs.length d2,Value.slice b3 t.takers.length d3,Value.int IntKind.i64 t.nextSeq,Value.int IntKind.i64 t.nextTag,Value.int IntKind.i64 t.came,Value.int IntKind.i64 t.acked,Value.int IntKind.i64 t.dropped] 31))=W0 at *
         go_loopw [5] (fun i wr=>Ap4 s.ready t.ready W0 i wr) (fun i _=>s.ready.length - (intOf i).toNat)
         case atStart=>exact⟨0,by omega,rfl,rfl,zb _ _⟩
         case round=>
          obtain⟨k,hk,rfl,hq,hB⟩:=hrel
          have HQ:=zh hq
          have HB:=zh hB
          clear hq
          obtain⟨⟨m0,_,_,_,_,_,_,_⟩,⟨n0,_,_,_,_,_,_,_⟩,_,hsat,htat⟩:=HBX.out _ hB
          by_cases hlt:k < s.ready.length
          ·have hlt2:k < t.ready.length:=by have:=HG.out.1;omega
           have hltr:k < rows.length:=by have h:=congrArg List.length hsat.same;rw[List.length_map] at h;omega
           have hltt:k < rowt.length:=by have h:=congrArg List.length htat.same;rw[List.length_map] at h;omega
           obtain⟨b,o,ha,_,hb,hc⟩:=Bd Dv (by decide) hsat.ready hltr
           obtain⟨b',o',ha',_,hb',hc'⟩:=Bd Dv (by decide) htat.ready hltt
           have e0:wr.cell? ⟨b,o+k,none⟩=some (.slice rows[k].at_ rows[k].items.length rows[k].cap):=by have:=hc 0 _ rfl;simpa using this
           have f0:wr.cell? ⟨b',o'+k,none⟩=some (.slice rowt[k].at_ rowt[k].items.length rowt[k].cap):=by have:=hc' 0 _ rfl;simpa using this
           have hit:s.ready[k]=rows[k].items:=by simp[←hsat.same]
           have hit':t.ready[k]=rowt[k].items:=by simp[←htat.same]
           have HIT:=zh hit;have HIT':=zh hit'
           have HR1:=zh (hsat.row _ (List.getElem_mem hltr)).1
           have HR2:=zh (htat.row _ (List.getElem_mem hltt)).1
           have hn1:=(HSS.out.row _ (List.getElem_mem hlt)).len
           have hn2:=(HTS.out.row _ (List.getElem_mem hlt2)).len
           rw[hit] at hn1
           rw[hit'] at hn2
           clear hc hc' hit hit' hsat htat hB
           generalize rows[k]=r at *
           obtain⟨ra,rc,ri⟩:=r
           generalize rowt[k]=r2 at *
           obtain⟨ta,tc,ti⟩:=r2
           dsimp only at e0 f0 HIT HIT' HR1 HR2 hn1 hn2
           subst ha ha'
           have HK:Hid (∀W,Below wr.heap.size wr W→(W.cell? ⟨w.heap.size,0,none⟩=some (.slice (some ⟨b,o,none⟩) s.ready.length c1)∧W.cell? ⟨w.heap.size+1,0,none⟩=some (.slice (some ⟨b',o',none⟩) t.ready.length d1)∧W.cell? ⟨b,o+k,none⟩=some (.slice ra ri.length rc)∧W.cell? ⟨b',o'+k,none⟩=some (.slice ta ti.length tc))∧Below wr.heap.size wr W):=fun W hW=>by
            have h:=HBX.out W (HB.out.trans (hW.mono HB.out.size))
            exact⟨⟨h.one.1,h.two.1,(hW.cell (p:=⟨b,_,none⟩) hb).trans e0,(hW.cell (p:=⟨b',_,none⟩) hb').trans f0⟩,hW⟩
           obtain⟨q,hq⟩:∃q,Ff ri ti=q:=⟨_,rfl⟩
           have HCALL:Hid (∀W,(∃C:Prop,C∧Below wr.heap.size wr W)→Calls Tryz.prog 33 #[.slice ra ri.length rc,.slice ta ti.length tc] W fun e w'=>e= .returned (.bool q)∧Below W.heap.size W w'):=fun W ⟨_,hW⟩=>by
            have:=Gj ra ta rc tc ri ti W 0 ((HR1.out.below hW.2 (zn _)).wider (zn _) hW.2.size) ((HR2.out.below hW.2 (zn _)).wider (zn _) hW.2.size) (by omega) (by omega)
            rw[hq] at this
            exact this
           have HQQ:=zh hq
           clear hq
           go_upto_region 6 with fail
           clear m0 n0 e0 f0
           cases q
           ·have HNE:=zh (G1 (s:=s) (t:=t) (fun e=>by
             have h1:=HIT.out;have h2:=HIT'.out
             subst e
             have h3:=HQQ.out
             rw[←h1,←h2,Jc] at h3
             cases h3))
            refine Jn [(0,false),(1,false),(2,false),(3,false),(4,false),(5,false),(6,false),(7,false),(8,false),(9,false),(10,true),(11,false)] (by kernel_rfl) (fun hOrd=> ?_)
            refine Ir (S:=(fun W=>(W.cell? ⟨w.heap.size,0,none⟩=some (.slice (some ⟨b,o,none⟩) s.ready.length c1)∧W.cell? ⟨w.heap.size+1,0,none⟩=some (.slice (some ⟨b',o',none⟩) t.ready.length d1)∧W.cell? ⟨b,o+k,none⟩=some (.slice ra ri.length rc)∧W.cell? ⟨b',o'+k,none⟩=some (.slice ta ti.length tc))∧Below wr.heap.size wr W)) hOrd (by kernel_rfl) (by first|assumption|exact HK.out _ (zb _ _).drew|exact HK.out _ (Br (by assumption) _)|exact HK.out _ (by assumption)) (fun hHeld=> ?_)
            clear hOrd
            iterate 12 ((first|(refine zT ?_)|(refine zL ?_)|(refine NW.call rfl (fun K hK=> ?_);go_simp;((go_at_call 33;have hfn:=HCALL.out _ ⟨_,by assumption⟩;with_reducible refine hfn.mono ?_;clear hfn;rintro e wf ⟨rfl,hbf⟩;have hbf2:=Bp (by assumption) hbf;clear hbf));refine hK.out _ _ (by first|assumption|exact HK.out _ (zb _ _).drew|exact HK.out _ (Br (by assumption) _)|exact HK.out _ (by assumption)) (fun hHeld=> ?_);clear hK K));try simp only[Act.put,zA,zB,zC,zD,zE,zF])
            refine NW.done ?_
            go_wp2_with fail
            go_ret
            exact⟨by rw[HNE.out];rfl,(HBX.out _ (HB.out.trans (hbf2.mono HB.out.size))).below⟩
           ·have HNEXT:Hid (s.ready.take (k+1)=t.ready.take (k+1)):=Wn hlt hlt2 HQ.out (by rw[HIT.out,HIT'.out];exact Iq.1 HQQ.out)
            refine Jn [(0,false),(1,false),(2,false),(3,false),(4,false),(5,false),(6,false),(7,false),(8,false),(9,false),(10,true),(11,false)] (by kernel_rfl) (fun hOrd=> ?_)
            refine Ir (S:=(fun W=>(W.cell? ⟨w.heap.size,0,none⟩=some (.slice (some ⟨b,o,none⟩) s.ready.length c1)∧W.cell? ⟨w.heap.size+1,0,none⟩=some (.slice (some ⟨b',o',none⟩) t.ready.length d1)∧W.cell? ⟨b,o+k,none⟩=some (.slice ra ri.length rc)∧W.cell? ⟨b',o'+k,none⟩=some (.slice ta ti.length tc))∧Below wr.heap.size wr W)) hOrd (by kernel_rfl) (by first|assumption|exact HK.out _ (zb _ _).drew|exact HK.out _ (Br (by assumption) _)|exact HK.out _ (by assumption)) (fun hHeld=> ?_)
            clear hOrd
            iterate 12 ((first|(refine zT ?_)|(refine zL ?_)|(refine NW.call rfl (fun K hK=> ?_);go_simp;((go_at_call 33;have hfn:=HCALL.out _ ⟨_,by assumption⟩;with_reducible refine hfn.mono ?_;clear hfn;rintro e wf ⟨rfl,hbf⟩;have hbf2:=Bp (by assumption) hbf;clear hbf));refine hK.out _ _ (by first|assumption|exact HK.out _ (zb _ _).drew|exact HK.out _ (Br (by assumption) _)|exact HK.out _ (by assumption)) (fun hHeld=> ?_);clear hK K));try simp only[Act.put,zA,zB,zC,zD,zE,zF])
            refine NW.done ?_
            go_wp2_with fail
            exact⟨⟨k+1,hlt,by go_num,HNEXT.out,HB.out.trans (hbf2.mono HB.out.size)⟩,by simp[intOf];omega⟩
          ·obtain rfl:k=s.ready.length:=by omega
           have HREADY:Hid (s.ready=t.ready):=Ul HG.out.1 HQ.out
           clear hsat htat hB
           go_wp2_with fail
           clear m0 n0
           go_loopw [6] (fun i wr=>Ap4 s.outs t.outs W0 i wr) (fun i _=>s.outs.length - (intOf i).toNat)
           case atStart=>exact⟨0,by omega,rfl,rfl,HB.out⟩
           case round=>
            clear HQ HB
            obtain⟨k,hk,rfl,hq,hB⟩:=hrel
            have HQ:=zh hq
            have HB:=zh hB
            clear hq
            obtain⟨⟨_,m1,_,_,_,_,_,_⟩,⟨_,n1,_,_,_,_,_,_⟩,_,hsat,htat⟩:=HBX.out _ hB
            by_cases hlt:k < s.outs.length
            ·have hlt2:k < t.outs.length:=by have:=HG.out.2.1;omega
             obtain⟨b,o,ha,_,hb,hc⟩:=Bd Dy (by decide) hsat.outs hlt
             obtain⟨b',o',ha',_,hb',hc'⟩:=Bd Dy (by decide) htat.outs hlt2
             obtain⟨e0,e1,e2,e3,e4,e5,e6,e7⟩:=G7 (wr:=wr) (b:=b) (o:=o) (k:=k) (x:=s.outs[k]) fun q u hu=>hc q u hu
             obtain⟨f0,f1,f2,f3,f4,f5,f6,f7⟩:=G7 (wr:=wr) (b:=b') (o:=o') (k:=k) (x:=t.outs[k]) fun q u hu=>hc' q u hu
             have HX:Hid (∀h1 h2,(s.outs[k]'h1)=s.outs[k]∧(t.outs[k]'h2)=t.outs[k]):=fun _ _=>⟨rfl,rfl⟩
             clear hc hc' hsat htat hB
             generalize hx:s.outs[k]=x at *
             generalize hy:t.outs[k]=y at *
             have HXY:=zh (And.intro hx hy)
             clear hx hy HX
             subst ha ha'
             cases hq:Ac0 x y
             ·have HNE:=zh (G1 (s:=s) (t:=t) (fun e=>by
               have h1:=HXY.out
               subst e
               have h2:=h1.1.symm.trans h1.2
               subst h2
               rw[We.2 rfl] at hq
               cases hq))
              go_wp2
              go_quiet (fail)
              all_goals go_wp2
              all_goals go_ret
              all_goals exact⟨by rw[HNE.out];rfl,(HBX.out _ (below_draws HB.out _)).below⟩
             ·have HNEXT:Hid (s.outs.take (k+1)=t.outs.take (k+1)):=Wn hlt hlt2 HQ.out (by rw[HXY.out.1,HXY.out.2];exact We.1 hq)
              go_wp2
              go_quiet (fail)
              all_goals go_wp2
              all_goals exact⟨⟨k+1,hlt,by go_num,HNEXT.out,below_draws HB.out _⟩,by simp[intOf];omega⟩
            ·obtain rfl:k=s.outs.length:=by omega
             have HOUTS:Hid (s.outs=t.outs):=Ul HG.out.2.1 HQ.out
             clear hsat htat hB
             go_wp2_with fail
             clear m1 n1
             go_loopw [7] (fun i wr=>Ap4 s.takers t.takers W0 i wr) (fun i _=>s.takers.length - (intOf i).toNat)
             case atStart=>exact⟨0,by omega,rfl,rfl,HB.out⟩
             case round=>
              clear HQ HB
              obtain⟨k,hk,rfl,hq,hB⟩:=hrel
              have HQ:=zh hq
              have HB:=zh hB
              clear hq
              obtain⟨⟨_,_,m2,_,_,_,_,_⟩,⟨_,_,n2,_,_,_,_,_⟩,_,hsat,htat⟩:=HBX.out _ hB
              by_cases hlt:k < s.takers.length
              ·have hlt2:k < t.takers.length:=by have:=HG.out.2.2.1;omega
               obtain⟨b,o,ha,_,hb,hc⟩:=Bd Cy (by decide) hsat.takers hlt
               obtain⟨b',o',ha',_,hb',hc'⟩:=Bd Cy (by decide) htat.takers hlt2
               obtain⟨e0,e1⟩:=Gx (wr:=wr) (b:=b) (o:=o) (k:=k) (x:=s.takers[k]) fun q u hu=>hc q u hu
               obtain⟨f0,f1⟩:=Gx (wr:=wr) (b:=b') (o:=o') (k:=k) (x:=t.takers[k]) fun q u hu=>hc' q u hu
               clear hc hc' hsat htat hB
               generalize hx:s.takers[k]=x at *
               generalize hy:t.takers[k]=y at *
               have HXY:=zh (And.intro hx hy)
               clear hx hy
               subst ha ha'
               cases hq:Qq x y
               ·have HNE:=zh (G1 (s:=s) (t:=t) (fun e=>by
                 have h1:=HXY.out
                 subst e
                 have h2:=h1.1.symm.trans h1.2
                 subst h2
                 rw[R8.2 rfl] at hq
                 cases hq))
                go_wp2
                go_quiet (fail)
                all_goals go_wp2
                all_goals go_ret
                all_goals exact⟨by rw[HNE.out];rfl,(HBX.out _ (below_draws HB.out _)).below⟩
               ·have HNEXT:Hid (s.takers.take (k+1)=t.takers.take (k+1)):=Wn hlt hlt2 HQ.out (by rw[HXY.out.1,HXY.out.2];exact R8.1 hq)
                go_wp2
                go_quiet (fail)
                all_goals go_wp2
                all_goals exact⟨⟨k+1,hlt,by go_num,HNEXT.out,below_draws HB.out _⟩,by simp[intOf];omega⟩
              ·obtain rfl:k=s.takers.length:=by omega
               have HEQ:Hid (Tf s t=true):=R7.2 (by
                have ht:=Ul HG.out.2.2.1 HQ.out
                have h1:=HREADY.out;have h2:=HOUTS.out
                obtain⟨_,_,_,h3,h4,h5,h6,h7⟩:=HG.out
                cases s;cases t
                simp_all)
               clear hsat htat hB
               go_wp2_with fail
               go_ret
               exact⟨by rw[HEQ.out];rfl,(HBX.out _ HB.out).below⟩
        ·have HNE:=zh (G1 (s:=s) (t:=t) (fun e=>by subst e;simp at g7))
         have HB0:=zh (HBX.out _ (zb _ _)).below
         clear HBX HSS HTS
         go_wp2_with fail
         go_ret
         exact⟨by rw[HNE.out];rfl,HB0.out⟩
       ·have HNE:=zh (G1 (s:=s) (t:=t) (fun e=>by subst e;simp at g6))
        have HB0:=zh (HBX.out _ (zb _ _)).below
        clear HBX HSS HTS
        go_wp2_with fail
        go_ret
        exact⟨by rw[HNE.out];rfl,HB0.out⟩
      ·have HNE:=zh (G1 (s:=s) (t:=t) (fun e=>by subst e;simp at g5))
       have HB0:=zh (HBX.out _ (zb _ _)).below
       clear HBX HSS HTS
       go_wp2_with fail
       go_ret
       exact⟨by rw[HNE.out];rfl,HB0.out⟩
     ·have HNE:=zh (G1 (s:=s) (t:=t) (fun e=>by subst e;simp at g4))
      have HB0:=zh (HBX.out _ (zb _ _)).below
      clear HBX HSS HTS
      go_wp2_with fail
      go_ret
      exact⟨by rw[HNE.out];rfl,HB0.out⟩
    ·have HNE:=zh (G1 (s:=s) (t:=t) (fun e=>by subst e;simp at g3))
     have HB0:=zh (HBX.out _ (zb _ _)).below
     clear HBX HSS HTS
     go_wp2_with fail
     go_ret
     exact⟨by rw[HNE.out];rfl,HB0.out⟩
   ·have HNE:=zh (G1 (s:=s) (t:=t) (fun e=>by subst e;simp at g2))
    have HB0:=zh (HBX.out _ (zb _ _)).below
    clear HBX HSS HTS
    go_wp2_with fail
    go_ret
    exact⟨by rw[HNE.out];rfl,HB0.out⟩
  ·have HNE:=zh (G1 (s:=s) (t:=t) (fun e=>by subst e;simp at g1))
   have HB0:=zh (HBX.out _ (zb _ _)).below
   clear HBX HSS HTS
   go_wp2_with fail
   go_ret
   exact⟨by rw[HNE.out];rfl,HB0.out⟩
 ·have HNE:=zh (G1 (s:=s) (t:=t) (fun e=>by subst e;simp at g0))
  have HB0:=zh (HBX.out _ (zb _ _)).below
  clear HBX HSS HTS
  go_wp2_with fail
  go_ret
  exact⟨by rw[HNE.out];rfl,HB0.out⟩
open Go.RowKit
end Go.Proofs.YtaanpcjkflhomaaGreatDoor
namespace Go.Proofs.YtaanpcjkflhomaaGreatDoor
open Go.RowKit
instance (n:Int):Decidable (i64 n):=inferInstanceAs (Decidable (_∧_))
theorem Gr:Ba Bn:=by
 refine⟨by decide,by decide,by decide,by decide,by decide,?_,?_⟩
 ·intro x hx
  simp only[Bn,List.mem_cons,List.not_mem_nil,or_false] at hx
  rcases hx with rfl|rfl<;>decide
 ·intro x hx
  simp only[Bn,List.mem_singleton] at hx
  subst hx
  exact⟨by decide,by decide,by decide⟩
theorem Ro:i64 0:=by decide
theorem Aea (p:Ab):Ba (Cx p):=by
 refine⟨Ro,Ro,Ro,Ro,Ro,?_,?_⟩
 ·intro x hx;cases hx
 ·intro x hx;cases hx
end Go.Proofs.YtaanpcjkflhomaaGreatDoor
