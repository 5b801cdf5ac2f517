/-
  Walks of the lines: Put, Push. Walks: lines.Shed; the reference's ShedOf.
-/
import Derived.Test.YtaanpcjkflhomaaGreatDoorInsert
set_option maxHeartbeats 20000000
set_option maxRecDepth 100000
set_option linter.unusedSimpArgs false
set_option linter.unusedVariables false
namespace Go.Proofs.YtaanpcjkflhomaaGreatDoor
open Go.RowKit
theorem Nf {α:Type} {enc:α→List Value} {size:Nat} (hs:∀x,(enc x).length=size):∀(k:Nat) (xs:List α),(xs.flatMap enc).take (k * size)=(xs.take k).flatMap enc
 |0,xs=>by simp
 |k+1,[]=>by simp
 |k+1,x::xs=>by
  rw[List.take_succ_cons,List.flatMap_cons,List.flatMap_cons,←Nf hs k xs,List.take_append,hs,List.take_of_length_le (by rw[hs,Nat.succ_mul];omega),show(k+1) * size - size=k * size by rw[Nat.succ_mul];omega]
theorem Nc {α:Type} {enc:α→List Value} {size:Nat} (hs:∀x,(enc x).length=size):∀(k:Nat) (xs:List α),(xs.flatMap enc).drop (k * size)=(xs.drop k).flatMap enc
 |0,xs=>by simp
 |k+1,[]=>by simp
 |k+1,x::xs=>by
  rw[List.drop_succ_cons,List.flatMap_cons,←Nc hs k xs,List.drop_append,hs,List.drop_eq_nil_of_le (by rw[hs,Nat.succ_mul];omega),show(k+1) * size - size=k * size by rw[Nat.succ_mul];omega,List.nil_append]
theorem Aol {s:Int} {l:List Ap} (h:∀y∈l,s≤y.seq):Mo l s=0:=by
 unfold Mo
 rw[List.countP_eq_zero]
 intro y hy
 have:=h y hy
 simp;omega
theorem Ac9 {x:Ap} :∀ {l:List Ap},(l.Pairwise fun x y=>x.seq < y.seq)→(l.any (fun y=>decide (y.seq=x.seq))=false)→Bs l x=l.take (Mo l x.seq)++[x]++l.drop (Mo l x.seq)
 | [],_,_=>rfl
 |y::r,hp,ha=>by
  obtain⟨hp1,hp2⟩:=List.pairwise_cons.1 hp
  rw[List.any_cons,Bool.or_eq_false_iff] at ha
  have hne:y.seq≠x.seq:=by simpa using ha.1
  unfold Bs
  by_cases h:x.seq < y.seq
  ·rw[if_pos h,Aol (fun z hz=>by
    rcases List.mem_cons.1 hz with rfl|hz
    ·omega
    ·have:=hp1 z hz;omega)]
   rfl
  ·have hlt:y.seq < x.seq:=by omega
   have:Mo (y::r) x.seq=Mo r x.seq+1:=by
    unfold Mo
    rw[List.countP_cons_of_pos (by simpa using hlt)]
   rw[if_neg h,this,Ac9 hp2 ha.2,List.take_succ_cons,List.drop_succ_cons]
   simp
theorem Apl (l:List Ap) (s:Int):Mo l s≤l.length:=List.countP_le_length
theorem An9 {x:Ap} {l:List Ap} (hp:l.Pairwise fun x y=>x.seq < y.seq) (ha:l.any (fun y=>decide (y.seq=x.seq))=false):Tk (l.flatMap A9) (Mo l x.seq) x=(Bs l x).flatMap A9:=by
 rw[Ac9 hp ha]
 unfold Tk
 rw[Nf Cg,Nc Cg]
 simp
theorem Aaf {w W0 W:World} {x:Ap} (h:Ai1 w W0 x) (hW:Below W0.heap.size W0 W):(W.cell? ⟨w.heap.size,0,none⟩=some (.int .i64 x.seq)∧W.cell? ⟨w.heap.size,1,none⟩=some (.string x.key)∧W.cell? ⟨w.heap.size,2,none⟩=some (.string x.body)∧W.cell? ⟨w.heap.size,3,none⟩=some (.bool x.again)∧W.cell? ⟨w.heap.size,4,none⟩=some (.int .i64 x.deaths))∧Below W0.heap.size W0 W:=⟨(h W hW).1,hW⟩
theorem Aou {w W0 W:World} {x:Ap} (h:Ai1 w W0 x) {C:Prop} (hW:C∧Below W0.heap.size W0 W) (o:Obj):((W.alloc o).cell? ⟨w.heap.size,0,none⟩=some (.int .i64 x.seq)∧(W.alloc o).cell? ⟨w.heap.size,1,none⟩=some (.string x.key)∧(W.alloc o).cell? ⟨w.heap.size,2,none⟩=some (.string x.body)∧(W.alloc o).cell? ⟨w.heap.size,3,none⟩=some (.bool x.again)∧(W.alloc o).cell? ⟨w.heap.size,4,none⟩=some (.int .i64 x.deaths))∧Below W0.heap.size W0 (W.alloc o):=Aaf h (hW.2.alloc hW.2.size o)
theorem Asw {W0 W:World} {a:Option Addr} {us:List Value} (h:Sl W0 0 W0.heap.size a us) {C:Prop} (hW:C∧Below W0.heap.size W0 W):Sl W 0 W.heap.size a us:=(h.below hW.2 (zn _)).wider (zn _) hW.2.size
theorem Ast {W0 W W':World} {C:Prop} (hW:C∧Below W0.heap.size W0 W) (_:Below W.heap.size W W'):W0.heap.size≤W.heap.size:=hW.2.size
theorem Aue {w:World} {g:Nat} {t:TypeId} {cs:Array Value} (h:Bk w g t cs):Bk w.drew g t cs:=h
theorem Asu {B:Nat} {W0 wc:World} {B0:Nat} {v:Value} {l:List Ap} {x:Ap} {k:Nat} (h0:B0≤W0.heap.size) (hown:wc.ownsRow B 52 5 v l.length (l.flatMap A9)) (hB:W0.heap.size≤B) (hW:Below W0.heap.size W0 wc) (hk:k≤l.length) (hn:l.length≤1048576):
  Calls Tryz.prog 159 #[v,.int .i64 k,.slice (some ⟨wc.heap.size,0,none⟩) 1 1] (wc.alloc (.cells #[.int .i64 x.seq,.string x.key,.string x.body,.bool x.again,.int .i64 x.deaths] 52)) fun e w'=>∃v',e= .returned v'∧w'.ownsRow B0 52 5 v' (l.length+1) (Tk (l.flatMap A9) k x)∧Below W0.heap.size W0 w':=by
 have hb:Below wc.heap.size wc (wc.alloc (.cells (A9 x).toArray 52)):=(zb _ wc).alloc (zn _) _
 have ho:=own_below hown hb
 have hsz:=hW.size
 refine(Zb W0.heap.size v l.length k _ x wc.heap.size _ (Cp ho hB) hk hn (Bk.new _ _ _) (fun g hg=> ?_) (Ke l) (by simp;omega)).mono ?_
 ·have:=(hown.lt g hg).2;omega
 ·rintro e w' ⟨v',rfl,ho',hg'⟩
  exact⟨v',rfl,Cp ho' h0,Bl (Cp ho hB) hg' (hW.trans (hb.mono hsz)) (zn _) (by simp;omega)⟩
theorem Asv {B:Nat} {W0 wc:World} {B0 vb:Nat} {v:Value} {l:List Ap} {x:Ap} {k:Nat} (h0:B0≤W0.heap.size) (hown:wc.ownsRow B 52 5 v l.length (l.flatMap A9)) (hB:W0.heap.size≤B) (hW:Below W0.heap.size W0 wc) (hvb:Bk wc vb 52 (A9 x).toArray) (hv:vb < B) (hk:k≤l.length) (hn:l.length≤1048576):
  Calls Tryz.prog 159 #[v,.int .i64 k,.slice (some ⟨vb,0,none⟩) 1 1] wc fun e w'=>∃v',e= .returned v'∧w'.ownsRow B0 52 5 v' (l.length+1) (Tk (l.flatMap A9) k x)∧Below W0.heap.size W0 w':=by
 refine(Zb W0.heap.size v l.length k _ x vb _ (Cp hown hB) hk hn hvb (fun g hg=> ?_) (Ke l) hW.size).mono ?_
 ·have:=(hown.lt g hg).1;omega
 ·rintro e w' ⟨v',rfl,ho',hg'⟩
  exact⟨v',rfl,Cp ho' h0,Bl (Cp hown hB) hg' hW (zn _) hW.size⟩
theorem Apk (a:Option Addr) (c:Nat) (l:List Ap) (x:Ap) (lo:Nat) (w:World) (hl:Sl w lo w.heap.size a (l.flatMap A9)) (hll:l.length≤1048576) (hp:l.Pairwise fun x y=>x.seq < y.seq) (hn:l.any (fun y=>decide (y.seq=x.seq))=false):
  Calls Tryz.prog 137 #[.slice a l.length c,.agg (A9 x).toArray] w fun e w'=>∃v,e= .returned v∧w'.ownsRow w.heap.size 52 5 v (Bs l x).length ((Bs l x).flatMap A9)∧Below w.heap.size w w':=by
 have hbx:=Rk w x 52
 have hz:(w.alloc (.cells #[.int .i64 x.seq,.string x.key,.string x.body,.bool x.again,.int .i64 x.deaths] 52)).heap.size=w.heap.size+1:=by simp
 have hl0:=(hl.below ((zb _ w).alloc (zn _) (.cells #[.int .i64 x.seq,.string x.key,.string x.body,.bool x.again,.int .i64 x.deaths] 52)) (zn _)).wider (lo':=0) (hi':=(w.alloc (.cells #[.int .i64 x.seq,.string x.key,.string x.body,.bool x.again,.int .i64 x.deaths] 52)).heap.size) (Nat.zero_le _) (by simp)
 have HL0:=zh hl0
 have HBX:=zh hbx
 have HP:=zh hp
 have hfin:∀(W:World) (v:Value),W.ownsRow w.heap.size 52 5 v (l.length+1) (Tk (l.flatMap A9) (Mo l x.seq) x)→W.ownsRow w.heap.size 52 5 v (Bs l x).length ((Bs l x).flatMap A9):=fun W v h=>by rw[Pj,←An9 hp hn];exact h
 have HFIN:=zh hfin
 have HLE:=Apl l x.seq
 clear hl hbx hl0 hp hn hfin
 unfold A9
 go_enter Tryz.func137,Tryz.ntmps137
 obtain⟨⟨e0,e1,e2,e3,e4⟩,_⟩:=HBX.out _ (zb _ _)
 go_wp2_with fail
 generalize w.alloc (.cells #[.int .i64 x.seq,.string x.key,.string x.body,.bool x.again,.int .i64 x.deaths] 52)=W0 at *
 have HZ:=zh hz;clear hz
 have hwz:w.heap.size≤W0.heap.size:=by have:=HZ.out;omega
 refine(Alx a c l x.seq 0 W0 HL0.out hll HP.out).mono ?_
 rintro e W1 ⟨rfl,hb1⟩
 have HB1:=zh hb1;clear hb1 e0 e1 e2 e3 e4
 generalize hk:Mo l x.seq=k at *
 clear hk
 generalize (l.any fun y=>decide (y.seq=x.seq))=bb at *
 go_wp2_with fail
 go_region_held3 (fun W=>(W.cell? ⟨w.heap.size,0,none⟩=some (.int .i64 x.seq)∧W.cell? ⟨w.heap.size,1,none⟩=some (.string x.key)∧W.cell? ⟨w.heap.size,2,none⟩=some (.string x.body)∧W.cell? ⟨w.heap.size,3,none⟩=some (.bool x.again)∧W.cell? ⟨w.heap.size,4,none⟩=some (.int .i64 x.deaths))∧Below W0.heap.size W0 W)
  (first|exact Aaf HBX.out (by assumption)|exact Aaf HBX.out HB1.out.drew|exact Aou HBX.out (by assumption) _)
  (first
   |(go_at_call 135;refine(Vn a c l 0 _ (Asw HL0.out (by assumption)) hll).mono ?_;rintro e wc ⟨v,rfl,hown,hb⟩;have hbc:=Bp (by assumption) hb;have hbs:=Ast (by assumption) hb)
   |(go_at_call 159;have hins:=Asu (x:=x) hwz hown hbs hbc HLE hll;with_reducible refine hins.mono ?_;clear hins;rintro e wi ⟨v2,rfl,hown2,hbi⟩)
   |(go_at_call 159;have hins:=Asv (x:=x) hwz hown hbs hbc ((Aue (Bk.new _ _ _)).below hb (by simp)) (by simp) HLE hll;with_reducible refine hins.mono ?_;clear hins;rintro e wi ⟨v2,rfl,hown2,hbi⟩))
 all_goals go_wp2
 all_goals go_ret
 all_goals exact⟨_,rfl,HFIN.out _ _ hown2,(HBX.out _ hbi).2⟩
end Go.Proofs.YtaanpcjkflhomaaGreatDoor
