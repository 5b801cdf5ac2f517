/-
  The log, read: a glass over bytes.
-/
import Derived.Test.YtaanpcjkflhomaaGreatDoorBunB
import Derived.Test.YtaanpcjkflhomaaGreatDoorLogP
import Derived.Deep.RegionHeld3
set_option maxHeartbeats 20000000
set_option maxRecDepth 100000
set_option linter.unusedSimpArgs false
set_option linter.unusedVariables false
namespace Go.Proofs.YtaanpcjkflhomaaGreatDoor
open Go.RowKit
def Uk:PanicEntry:= { v:= .iface 192 (.agg #[]),recovered:=false }
def Jj (w:World) (g:Nat) (s:ByteArray):Prop:=Bk w g 168 #[.string s]
theorem Jj.cell {w:World} {g:Nat} {s:ByteArray} (h:Jj w g s):w.cell? ⟨g,0,none⟩=some (.string s)∧w.frozen? ⟨g,0,none⟩=false:=⟨Bk.cell h 0,Bk.frozen h 0⟩
theorem Jj.set {w:World} {g:Nat} {s:ByteArray} (h:Jj w g s) (r:ByteArray):Jj (w.setCell ⟨g,0,none⟩ (.string r)) g r:=by
 have:=Bk.set_ h 0 (.string r)
 simpa [Jj] using this
theorem Au3 (w:World) (row:Option Nat):w.grownBy w row:=⟨rfl,rfl,rfl,zn _,fun _ _ _=>rfl⟩
theorem Axd (w:World) (g i:Nat) (v:Value):w.grownBy (w.setCell ⟨g,i,none⟩ v) (some g):=
 ⟨rfl,rfl,rfl,by simp[World.setCell],fun k _ hne=>Below.heap_setCell w ⟨g,i,none⟩ v k (fun e=>hne (by rw[e]))⟩
theorem Jj.alloc {w:World} {g:Nat} {s:ByteArray} (h:Jj w g s) (o:Obj):Jj (w.alloc o) g s:=Bk.alloc h o
def Ai9 {α:Type} (g:Nat) (w:World) (v:α→Value) (o:Option (α×ByteArray)) (e:Ending) (w':World):Prop:=
 w.grownBy w' (some g)∧match o with
  |some (x,r)=>e= .returned (v x)∧Jj w' g r
  |none=>e= .panicked [Uk]
theorem V7 (g:Nat) (s:ByteArray) (n:Nat) (w:World) (hg:Jj w g s):
  Calls Tryz.prog 132 #[.pointer (some ⟨g,0,none⟩),.int .i64 n] w (Ai9 g w Value.string (tkS n s)):=by
 obtain⟨hc,hf⟩:=hg.cell
 have hlt:=Bk.lt hg
 by_cases h:n≤s.size
 ·have hb:decide ((s.size:Int) < (n:Int))=false:=by simp;omega
  have ht:tkS n s=some (s.extract 0 n,s.extract n s.size):=by unfold tkS;rw[if_pos h]
  have HT:=zh ht
  have HG:=zh hg
  have hn0:(0:Int)≤(n:Int):=by omega
  have hn1:(n:Int)≤(s.size:Int):=by omega
  clear ht hg h
  go_enter Tryz.func132,Tryz.ntmps132
  go_wp2_with fail
  go_ret
  unfold Ai9
  rw[HT.out]
  exact⟨Axd _ _ _ _,rfl,HG.out.set _⟩
 ·have hb:s.size < n:=by omega
  have ht:tkS n s=none:=by unfold tkS;rw[if_neg h]
  have HT:=zh ht
  clear ht hg h
  go_enter Tryz.func132,Tryz.ntmps132
  go_wp2_with fail
  refine⟨rfl,?_⟩
  rw[HT.out]
  exact⟨Au3 _ _,rfl⟩
theorem Auu (s:ByteArray) (h:0 < s.size) (h':0 < (s.extract 0 1).size):(s.extract 0 1)[0]=s[0]:=by
 simp[ByteArray.getElem_extract]
theorem Awv (b:UInt8):wrap64 (b.toNat:Int)=(b.toNat:Int):=by
 have:=b.toNat_lt
 unfold wrap64;omega
theorem Rt (g:Nat) (s:ByteArray) (w:World) (hg:Jj w g s):
  Calls Tryz.prog 131 #[.pointer (some ⟨g,0,none⟩)] w (Ai9 g w (fun n=> .int .i64 (n:Nat)) (nmS s)):=by
 have htk:=V7 g s 1 w hg
 by_cases h:0 < s.size
 ·have hn:nmS s=some (s[0].toNat,s.extract 1 s.size):=by unfold nmS;rw[dif_pos h]
  have ht:tkS 1 s=some (s.extract 0 1,s.extract 1 s.size):=by unfold tkS;rw[if_pos (by omega)]
  rw[ht] at htk
  rw[hn]
  have HTK:=zh htk
  clear htk hn ht
  go_enter Tryz.func131,Tryz.ntmps131
  go_wp2_with fail
  refine HTK.out.mono ?_
  rintro e w1 ⟨hgr,rfl,hg1⟩
  go_wp2_with fail
  go_ret
  refine⟨hgr,?_,hg1⟩
  simp only[Awv,Auu s h]
  rfl
 ·have hn:nmS s=none:=by unfold nmS;rw[dif_neg h]
  have ht:tkS 1 s=none:=by unfold tkS;rw[if_neg (by omega)]
  rw[ht] at htk
  rw[hn]
  have HTK:=zh htk
  clear htk hn ht
  go_enter Tryz.func131,Tryz.ntmps131
  go_wp2_with fail
  refine HTK.out.mono ?_
  rintro e w1 ⟨hgr,rfl⟩
  go_wp2_with fail
  exact⟨rfl,hgr,rfl⟩
theorem Ai9.some {α:Type} {g:Nat} {w w':World} {v:α→Value} {x:α} {r:ByteArray} {e:Ending} (h:Ai9 g w v (some (x,r)) e w'):w.grownBy w' (some g)∧e= .returned (v x)∧Jj w' g r:=h
theorem Ai9.none {α:Type} {g:Nat} {w w':World} {v:α→Value} {e:Ending} (h:Ai9 (α:=α) g w v none e w'):w.grownBy w' (.some g)∧e= .panicked [Uk]:=h
end Go.Proofs.YtaanpcjkflhomaaGreatDoor
