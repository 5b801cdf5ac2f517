/-
  The law's choose, walked.
-/
import Derived.Test.YtaanpcjkflhomaaGreatDoorBunB
set_option maxHeartbeats 20000000
set_option maxRecDepth 100000
set_option linter.unusedSimpArgs false
set_option linter.unusedVariables false
namespace Go.Proofs.YtaanpcjkflhomaaGreatDoor
open Go.RowKit
theorem Oq (c:Int) (n:Int) (w:World) (h0: -9223372036854775808≤c) (h1:c≤9223372036854775807) (hn:1≤n) (hn2:n≤1048576):
  Calls Tryz.prog 31 #[.int .i64 c,.int .i64 n] w fun e w'=>∃r:Nat,(r:Int) < n∧e= .returned (.int .i64 r)∧w=w':=by
 by_cases hc:c < 0
 ·have hr: -((c+1).tmod n)=(((-(c+1)) % n).toNat:Int):=by
   rw[←Int.neg_tmod,Int.tmod_eq_emod_of_nonneg (by omega),Int.toNat_of_nonneg (Int.emod_nonneg _ (by omega))]
  have hl:(-(c+1)) % n < n:=Int.emod_lt_of_pos _ (by omega);have hz:0≤(-(c+1)) % n:=Int.emod_nonneg _ (by omega);have HR:=zh (zi hr (zi hl hz));clear hr hl hz
  go_enter Tryz.func31,Tryz.ntmps31
  go_wp2
  go_ret
  exact⟨((-(c+1)) % n).toNat,by have:=HR.out;omega,by rw[←HR.out.1];rfl,rfl⟩
 ·have hl:c % n < n:=Int.emod_lt_of_pos _ (by omega)
  have hz:0≤c % n:=Int.emod_nonneg _ (by omega);have HR:=zh (zi hl hz);clear hl hz
  go_enter Tryz.func31,Tryz.ntmps31
  go_wp2
  go_ret
  exact⟨(c % n).toNat,by have:=HR.out;omega,by rw[Int.toNat_of_nonneg HR.out.2];rfl,rfl⟩
end Go.Proofs.YtaanpcjkflhomaaGreatDoor
