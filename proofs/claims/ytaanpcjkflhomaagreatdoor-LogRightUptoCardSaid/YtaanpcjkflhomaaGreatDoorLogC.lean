/-
  The log: an act is written.
-/
import Derived.Test.YtaanpcjkflhomaaGreatDoorLogP
import Derived.Test.YtaanpcjkflhomaaGreatDoorActD
import Derived.Test.YtaanpcjkflhomaaGreatDoorBunB
import Derived.Test.YtaanpcjkflhomaaGreatDoorBunF
import Derived.Laws.IdiomStrings
import Derived.Lib.AppendStr
import Derived.Test.YtaanpcjkflhomaaGreatDoorBunH
set_option maxHeartbeats 20000000
set_option maxRecDepth 100000
set_option linter.unusedSimpArgs false
set_option linter.unusedVariables false
namespace Go.Proofs.YtaanpcjkflhomaaGreatDoor
open Go Go.RowKit
def Ie (x:Cn):List Int:=[x.kind,x.a,x.b,x.key.size,x.body.size]
def inB (n:Int):Bool:=decide (0≤n∧n≤255)
theorem Qm (x:Cn):Df x=(Ie x).all inB:=by
 rw[Bool.eq_iff_iff]
 simp only[Df,Ie,inB,List.all_cons,List.all_nil,Bool.and_eq_true,decide_eq_true_eq,Bool.and_true]
 omega
def bV (b:UInt8):Value:= .int .u8 (b.toNat:Int)
theorem Zn {n:Int} (h:0≤n):((UInt8.ofNat n.toNat).toNat:Int)=n % 256:=by
 rw[UInt8.toNat_ofNat']
 omega
theorem Zo (W:World) (l:List UInt8) (n:Nat) (hn:n=l.length) (vals:Array Value) (hv:vals=(l.map bV).toArray):
  (convert 116 9 (.slice (some ⟨W.heap.size,0,none⟩) n n)).run Tryz.prog (W.alloc (.cells vals 5))= .ok (.string (bs l)) (W.alloc (.cells vals 5)):=by
 subst hn hv
 refine run_convert_bytes_back _ 116 9 5 ⟨W.heap.size,0,none⟩ l.length l Tryz.underlying116 Tryz.underlying5 Tryz.underlying9 (fun j hj=> ?_)
 have hk:=(Bk.new W 5 (l.map bV).toArray).cell j
 have e:((⟨W.heap.size,0,none⟩:Addr).add j)=⟨W.heap.size,j,none⟩:=by
  unfold Addr.add
  split
  ·simp_all
  ·simp
 rw[e,hk,zI,List.getElem?_map,zG hj]
 rfl
theorem Al3:(Tryz.prog.info? 5).map (fun i=>(i.zero,i.size,i.bytes))=some (some (.int .u8 0),1,1):=by kernel_rfl
def Ab9 (x:Cn):List UInt8:=[UInt8.ofNat x.kind.toNat,UInt8.ofNat x.a.toNat,UInt8.ofNat x.b.toNat,UInt8.ofNat x.key.size]
theorem Aif (n:Nat):((UInt8.ofNat n).toNat:Int)=(n:Int) % 256:=by
 rw[UInt8.toNat_ofNat']
 omega
theorem Xl {x:Cn} (h:Df x=true):(#[.int .u8 (x.kind % 256),.int .u8 (x.a % 256),.int .u8 (x.b % 256),.int .u8 ((x.key.size:Int) % 256)]:Array Value)=((Ab9 x).map bV).toArray:=by
 unfold Df at h
 simp only[Bool.and_eq_true,decide_eq_true_eq] at h
 unfold Ab9 bV
 simp only[List.map_cons,List.map_nil,Zn h.1.1.1.1.1,Zn h.1.1.1.2.1,Zn h.1.1.2.1,Aif]
theorem Avp {w:World} {B:Nat} {a:Option Addr} {c:Nat} (l:List UInt8) (h:w.ownsRow B 5 1 (.slice a l.length c) l.length (l.map bV)) (h0:0 < l.length):(convert 116 9 (.slice a l.length c)).run Tryz.prog w= .ok (.string (bs l)) w:=by
 obtain⟨rb,rfl⟩:=Fa h h0
 refine run_convert_bytes_back w 116 9 5 ⟨rb,0,none⟩ c l Tryz.underlying116 Tryz.underlying5 Tryz.underlying9 (fun j hj=> ?_)
 have:=h.cellAt j (by omega)
 have e:((⟨rb,0,none⟩:Addr).add j)=⟨rb,j,none⟩:=by
  unfold Addr.add
  split
  ·simp_all
  ·simp
 rw[e,this,List.getElem?_map,zG hj]
 rfl
theorem Adp (s:ByteArray):Lib.strCells s=s.data.toList.map bV:=by simp[Lib.strCells,bV]
theorem Ww (x:Cn):(#[.int .u8 ((x.body.size:Int) % 256)]:Array Value)=([UInt8.ofNat x.body.size].map bV).toArray:=by
 unfold bV
 simp only[List.map_cons,List.map_nil,Aif]
theorem Ang {x:Cn} (h:Df x=true):([.int .u8 (x.kind % 256),.int .u8 (x.a % 256),.int .u8 (x.b % 256),.int .u8 ((x.key.size:Int) % 256)]++Lib.strCells x.key++[.int .u8 ((x.body.size:Int) % 256)]++Lib.strCells x.body:List Value)=(Jg x).map bV:=by
 have h1:=congrArg Array.toList (Xl h)
 have h2:=congrArg Array.toList (Ww x)
 simp only at h1 h2
 rw[h1,h2,Adp,Adp,←List.map_append,←List.map_append,←List.map_append]
 unfold Ab9 Jg
 simp
def Avs (x:Cn) (R:Nat) (W0:World) (i:Value) (wr:World):Prop:=∃k:Nat,k≤5∧i= .int .i64 k∧((Ie x).take k).all inB=true∧Bk wr R 3 ((Ie x).map (Value.int .i64)).toArray∧Bk wr W0.heap.size 57 (Ez x).toArray∧Below W0.heap.size W0 wr
theorem Acs {x:Cn} {k:Nat} (hk:k < 5) {n:Int} (hn:(Ie x)[k]? =some n):((Ie x).take (k+1)).all inB=(((Ie x).take k).all inB && inB n):=by
 obtain⟨h1,h2⟩:=List.getElem?_eq_some_iff.1 hn
 rw[List.take_succ_eq_append_getElem h1,List.all_append,h2]
 simp
theorem Jv (x:Cn) (hx:Eb x) (w:World):Calls Tryz.prog 37 #[.agg (Ez x).toArray] w fun e w'=>e= .returned (.tuple #[.string (Gc x),.int .i64 (F0 x)])∧Below w.heap.size w w':=by
 have HX:=zh hx
 have hk1:x.key.size≤9223372036854775807:=by have:=hx.key;omega
 have hb1:x.body.size≤9223372036854775807:=by have:=hx.body;omega
 clear hx
 unfold Ez
 go_enter Tryz.func37,Tryz.ntmps37
 go_wp2_with fail
 obtain⟨W1,hW1⟩:∃W1,(w.alloc (.cells #[.int .i64 x.kind,.int .i64 x.a,.int .i64 x.b,.string x.key,.string x.body] 57)).alloc (.cells #[.int .i64 x.kind,.int .i64 x.a,.int .i64 x.b,.int .i64 x.key.size,.int .i64 x.body.size] 3)=W1:=⟨_,rfl⟩
 have HK0:Hid (Bk W1 w.heap.size 57 (Ez x).toArray∧Bk W1 (w.heap.size+1) 3 ((Ie x).map (Value.int .i64)).toArray∧Below w.heap.size w W1):=by
  rw[←hW1]
  exact⟨(Bk.new _ _ _).alloc _,Bk.new_at _ _ _ (by simp),((zb _ _).alloc (zn _) _).alloc (by simp) _⟩
 rw[hW1]
 clear hW1
 go_loopw [5,21] (fun v i wr=>Avs x (w.heap.size+1) w i wr) (fun _ i _=>5 - (intOf i).toNat)
 case atStart=>exact⟨0,by omega,rfl,rfl,HK0.out.2.1,HK0.out.1,HK0.out.2.2⟩
 case round=>
  obtain⟨k,hk,rfl,hall,hrow,hact,hB⟩:=hrel
  have HROW:=zh hrow
  have HACT:=zh hact
  have HB:=zh hB
  have HALL:=zh hall
  by_cases hlt:k < 5
  ·obtain⟨n,hn⟩:∃n,(Ie x)[k]? =some n:=⟨_,zG (by simpa [Ie] using hlt)⟩
   have e0:wr.cell? ⟨w.heap.size+1,k,none⟩=some (.int .i64 n):=by rw[hrow.cell,zI,List.getElem?_map,hn];rfl
   have HST:=zh (Acs hlt hn)
   clear hn hall hrow hact hB
   by_cases hin:inB n=true
   ·have h2:0≤n∧n≤255:=by simpa [inB] using hin
    have HIN:=zh hin
    have h3:(decide (n < 0))=false:=by simp;omega
    have h4:(decide ((255:Int) < n))=false:=by simp;omega
    obtain⟨h5,h6⟩:=h2
    clear hin
    go_wp2_with fail
    exact⟨⟨k+1,by omega,rfl,by rw[HST.out,HALL.out,HIN.out];rfl,HROW.out,HACT.out,HB.out⟩,by simp[intOf];omega⟩
   ·have HR:Hid (Df x=false):=by
     refine(?_:Df x=false)
     rw[Qm]
     rw[←List.take_append_drop (k+1) (Ie x),List.all_append,HST.out]
     simp[hin]
    by_cases h0:n < 0
    ·clear hin
     go_wp2_with fail
     refine bodyPost_ret (v:= .tuple #[.string ⟨#[]⟩,.int .i64 3]) (by simp[results,Tryz.results37,go_sem]) rfl ?_
     unfold Gc F0
     rw[HR.out]
     exact⟨rfl,HB.out⟩
    ·have h1:255 < n:=by
      have:¬ (0≤n∧n≤255):=by simpa [inB] using hin
      omega
     clear hin
     go_wp2_with fail
     refine bodyPost_ret (v:= .tuple #[.string ⟨#[]⟩,.int .i64 3]) (by simp[results,Tryz.results37,go_sem]) rfl ?_
     unfold Gc F0
     rw[HR.out]
     exact⟨rfl,HB.out⟩
  ·obtain rfl:k=5:=by omega
   have HR:Hid (Df x=true):=by
    refine(?_:Df x=true)
    rw[Qm]
    exact hall
   have n0:wr.cell? ⟨w.heap.size,0,none⟩=some (.int .i64 x.kind):=hact.cell 0
   have n1:wr.cell? ⟨w.heap.size,1,none⟩=some (.int .i64 x.a):=hact.cell 1
   have n2:wr.cell? ⟨w.heap.size,2,none⟩=some (.int .i64 x.b):=hact.cell 2
   have n3:wr.cell? ⟨w.heap.size,3,none⟩=some (.string x.key):=hact.cell 3
   have n4:wr.cell? ⟨w.heap.size,4,none⟩=some (.string x.body):=hact.cell 4
   clear hall hrow hact hB
   have hcv1:=Zo wr (Ab9 x) 4 rfl _ (Xl HR.out)
   have hcv2:=Zo (wr.alloc (.cells #[.int .u8 (x.kind % 256),.int .u8 (x.a % 256),.int .u8 (x.b % 256),.int .u8 ((x.key.size:Int) % 256)] 5)) [UInt8.ofNat x.body.size] 1 rfl _ (Ww x)
   rw[show(wr.alloc (.cells #[.int .u8 (x.kind % 256),.int .u8 (x.a % 256),.int .u8 (x.b % 256),.int .u8 ((x.key.size:Int) % 256)] 5)).heap.size=wr.heap.size+1 by simp] at hcv2
   have hlt2:=HACT.out.lt
   have hs1:(bs (Ab9 x)).size=4:=rfl
   have hs2:(bs [UInt8.ofNat x.body.size]).size=1:=rfl
   have hk2:=HX.out.key
   have hb2:=HX.out.body
   go_wp2_with fail
   refine bodyPost_ret (v:= .tuple #[.string (bs (Ab9 x)++x.key++bs [UInt8.ofNat x.body.size]++x.body),.int .i64 0]) (by simp[results,Tryz.results37,go_sem]) rfl ?_
   unfold Gc F0
   rw[HR.out]
   have hs:=HB.out.size
   exact⟨rfl,(HB.out.alloc hs _).alloc (by simp;omega) _⟩
theorem Adv (x:Cn) (hx:Eb x) (w:World):Calls Tryz.prog 38 #[.agg (Ez x).toArray] w fun e w'=>e= .returned (.tuple #[.string (Gc x),.int .i64 (F0 x)])∧Below w.heap.size w w':=by
 have HX:=zh hx
 have hk1:x.key.size≤9223372036854775807:=by have:=hx.key;omega
 have hb1:x.body.size≤9223372036854775807:=by have:=hx.body;omega
 clear hx
 unfold Ez
 go_enter Tryz.func38,Tryz.ntmps38
 go_wp2_with fail
 obtain⟨W1,hW1⟩:∃W1,(w.alloc (.cells #[.int .i64 x.kind,.int .i64 x.a,.int .i64 x.b,.string x.key,.string x.body] 57)).alloc (.cells #[.int .i64 x.kind,.int .i64 x.a,.int .i64 x.b,.int .i64 x.key.size,.int .i64 x.body.size] 3)=W1:=⟨_,rfl⟩
 have HK0:Hid (Bk W1 w.heap.size 57 (Ez x).toArray∧Bk W1 (w.heap.size+1) 3 ((Ie x).map (Value.int .i64)).toArray∧Below w.heap.size w W1):=by
  rw[←hW1]
  exact⟨(Bk.new _ _ _).alloc _,Bk.new_at _ _ _ (by simp),((zb _ _).alloc (zn _) _).alloc (by simp) _⟩
 rw[hW1]
 clear hW1
 go_loopw [5] (fun i wr=>Avs x (w.heap.size+1) w i wr) (fun i _=>5 - (intOf i).toNat)
 case atStart=>exact⟨0,by omega,rfl,rfl,HK0.out.2.1,HK0.out.1,HK0.out.2.2⟩
 case round=>
  obtain⟨k,hk,rfl,hall,hrow,hact,hB⟩:=hrel
  have HROW:=zh hrow
  have HACT:=zh hact
  have HB:=zh hB
  have HALL:=zh hall
  by_cases hlt:k < 5
  ·obtain⟨n,hn⟩:∃n,(Ie x)[k]? =some n:=⟨_,zG (by simpa [Ie] using hlt)⟩
   have e0:wr.cell? ⟨w.heap.size+1,k,none⟩=some (.int .i64 n):=by rw[hrow.cell,zI,List.getElem?_map,hn];rfl
   have HST:=zh (Acs hlt hn)
   clear hn hall hrow hact hB
   go_wp2_with fail
   refine(B8 n 0 255 wr).mono ?_
   rintro e w2 ⟨rfl,rfl⟩
   by_cases hin:inB n=true
   ·have h2:0≤n∧n≤255:=by simpa [inB] using hin
    have hb:(decide (0≤n) && decide (n≤255))=true:=by simp[h2]
    rw[hb]
    have HIN:=zh hin
    clear hin h2 hb
    go_wp2_with fail
    exact⟨⟨k+1,by omega,rfl,by rw[HST.out,HALL.out,HIN.out];rfl,HROW.out,HACT.out,HB.out⟩,by simp[intOf];omega⟩
   ·have HR:Hid (Df x=false):=by
     refine(?_:Df x=false)
     rw[Qm]
     rw[←List.take_append_drop (k+1) (Ie x),List.all_append,HST.out]
     simp[hin]
    have hb:(decide (0≤n) && decide (n≤255))=false:=by
     rw[←Bool.not_eq_true]
     intro h
     apply hin
     simpa [inB] using h
    rw[hb]
    clear hin hb
    go_wp2_with fail
    refine bodyPost_ret (v:= .tuple #[.string ⟨#[]⟩,.int .i64 3]) (by simp[results,Tryz.results38,go_sem]) rfl ?_
    unfold Gc F0
    rw[HR.out]
    exact⟨rfl,HB.out⟩
  ·obtain rfl:k=5:=by omega
   have HR:Hid (Df x=true):=by
    refine(?_:Df x=true)
    rw[Qm]
    exact hall
   have hk2:=HX.out.key
   have hb2:=HX.out.body
   obtain⟨iu,hiu,hz0,hz1,hz2⟩:=info_parts Al3
   have hlit:=World.ownsRow_lit wr #[.int .u8 (x.kind % 256),.int .u8 (x.a % 256),.int .u8 (x.b % 256),.int .u8 ((x.key.size:Int) % 256)] 4 (base:=wr.heap.size) (e:=5) (size:=1) (zn _) (by unfold maxLen;omega) rfl
   have HL:=zh hlit;clear hlit
   have h63:4+x.key.size≤maxLen:=by unfold maxLen;omega
   have h64:4+x.key.size≤140737488355328:=by omega
   have n0:wr.cell? ⟨w.heap.size,0,none⟩=some (.int .i64 x.kind):=hact.cell 0
   have n1:wr.cell? ⟨w.heap.size,1,none⟩=some (.int .i64 x.a):=hact.cell 1
   have n2:wr.cell? ⟨w.heap.size,2,none⟩=some (.int .i64 x.b):=hact.cell 2
   have n3:wr.cell? ⟨w.heap.size,3,none⟩=some (.string x.key):=hact.cell 3
   have hlt2:=hact.lt
   clear hall hrow hact hB
   go_upto_region 8 with(at_builtin;refine Lib.wpList_append_own_string _ rfl _ _ 116 9 rfl wr.heap.size 5 iu Tryz.underlying116 Tryz.underlying9 hiu hz0 hz1 hz2 _ _ _ rfl HL.out x.key rfl h63 h64 (by simp) ?_;intro v3 w3 hown3 hgrow _;have H3:=zh hown3;have HG3:=zh (Bl HL.out hgrow ((zb wr.heap.size wr).alloc (zn _) _) (zn _) (by simp));clear hown3 hgrow)
   clear n0 n1 n2 n3
   have hact:=HACT.out.below HG3.out HACT.out.lt
   have n4:w3.cell? ⟨w.heap.size,4,none⟩=some (.string x.body):=hact.cell 4
   have HA3:=zh hact
   have hbase3:wr.heap.size≤w3.heap.size:=HG3.out.size
   clear hact
   go_upto_region 9 with(at_builtin;refine D6 rfl _ _ 116 rfl wr.heap.size 5 Al3 Tryz.underlying116 rfl (by decide) (by decide) w3 _ _ _ rfl H3.out [.int .u8 ((x.body.size:Int) % 256)] rfl rfl rfl (by simp[Value.oneCell']) (by omega) hbase3 ?_;intro v4 w4 ho4 hg4;have HO4:=zh (And.intro ho4 hg4);clear ho4 hg4)
   have HB4:=zh (Bl H3.out HO4.out.2 HG3.out (zn _) HG3.out.size)
   have hact:=HACT.out.below HB4.out HACT.out.lt
   have n4:w4.cell? ⟨w.heap.size,4,none⟩=some (.string x.body):=hact.cell 4
   have h63b:4+x.key.size+1+x.body.size≤maxLen:=by unfold maxLen;omega
   have h64b:4+x.key.size+1+x.body.size≤140737488355328:=by omega
   have hbase4:wr.heap.size≤w4.heap.size:=HB4.out.size
   clear hact hbase3 h63 h64
   have hn:4+x.key.size+1+x.body.size=(Jg x).length:=by rw[Abs];omega
   have hcells:=Ang HR.out
   have hpos:0 < (Jg x).length:=by rw[←hn];omega
   have HCE:=zh (And.intro hn (And.intro hcells hpos))
   clear hn hcells hpos
   go_wp2_with (at_builtin;refine Lib.wpList_append_own_string w4 rfl _ _ 116 9 rfl wr.heap.size 5 iu Tryz.underlying116 Tryz.underlying9 hiu hz0 hz1 hz2 _ _ _ rfl HO4.out.1 x.body rfl h63b h64b hbase4 ?_;intro v5 w5 hown5 hgrow _;have h5:w5.ownsRow wr.heap.size 5 1 v5 (Jg x).length ((Jg x).map bV):=(by rw[←HCE.out.2.1,←HCE.out.1];exact hown5);obtain⟨a5,c5,rfl,_⟩:=Ad h5;have hcv:=Avp (Jg x) h5 HCE.out.2.2;have HG5:=zh (Bl HO4.out.1 hgrow HB4.out (zn _) HB4.out.size);have hn5:=HCE.out.1;clear hown5 hgrow h5)
   refine bodyPost_ret (v:= .tuple #[.string (bs (Jg x)),.int .i64 0]) (by simp[results,Tryz.results38,go_sem]) rfl ?_
   unfold Gc F0
   rw[HR.out,Ad2]
   have hs:=HB.out.size
   exact⟨rfl,HB.out.trans (HG5.out.mono hs)⟩
end Go.Proofs.YtaanpcjkflhomaaGreatDoor
