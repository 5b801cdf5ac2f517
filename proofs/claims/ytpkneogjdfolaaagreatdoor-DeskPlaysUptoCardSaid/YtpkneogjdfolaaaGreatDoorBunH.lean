/- Lemmas. -/
import Derived.Test.YtpkneogjdfolaaaGreatDoorBunF
set_option maxHeartbeats 20000000
set_option maxRecDepth 100000
set_option linter.unusedSimpArgs false
set_option linter.unusedVariables false
namespace Go.Proofs.YtpkneogjdfolaaaGreatDoor
open Go.RowKit
theorem Ov:(Tryz.prog.info? 115).map (fun i=>(i.zero,i.size,i.bytes))=some (some (.agg #[.int .i64 0,.int .i64 0,.int .i64 0,.int .i64 0,.string ⟨#[]⟩,.string ⟨#[]⟩,.bool false,.int .i64 0]),8,80):=by kernel_rfl
theorem T5:(Tryz.prog.info? 147).map (fun i=>(i.zero,i.size,i.bytes))=some (some (.agg #[.int .i64 0,.int .i64 0]),2,16):=by kernel_rfl
theorem Akp(a:zZ)(c:Nat)(l:List Bm)(lo:Nat)(w:zW)(hl:Sl w lo w.heap.size a (l.flatMap M4))(hll:l.length≤1048576):
  Calls Tryz.prog 172 #[.slice a l.length c] w fun e w'=>∃v,e= .returned v∧w'.ownsRow w.heap.size 132 1 v l.length (l.flatMap M4)∧Below w.heap.size w w':=by
 have heq:=fun W=>Lib.run_eql_slice_nil (P:=Tryz.prog) W 36 132 a l.length c 0 0 Tryz.underlying36;have hlen:(l.flatMap M4).length=l.length * 1:=Dd El l;have HLEN:=zh hlen;clear hlen
 have HL:=zh hl;clear hl
 cases a with
 |none=>
  have h0:l.length=0:=by
   rcases HL.out with h|⟨b,o,e,_⟩
   ·have:=HLEN.out;rw[h] at this;simp at this;omega
   ·cases e
  have HR:Hid (∀W:zW,W.ownsRow w.heap.size 132 1 (.slice none 0 0) l.length (l.flatMap M4)):=fun W=>by
   rw[h0,List.eq_nil_of_length_eq_zero h0];exact World.ownsRow_nil _ _ _ _
  clear h0;go_enter Tryz.func172,Tryz.ntmps172
  go_wp2_with fail
  go_ret
  exact⟨_,rfl,HR.out _,zb _ _⟩
 |some ad=>
  have hal:Below w.heap.size w (w.alloc (.cells #[] 132)):=(zb _ _).alloc (zn _) _;obtain⟨v',w',hr,hb,hx⟩:=Ep (P:=Tryz.prog) (w.alloc (.cells #[] 132)) 36 36 132 Tryz.underlying36 Ago rfl (by decide) (by decide) ⟨w.heap.size,0,none⟩ lo w.heap.size (some ad) l.length c (l.flatMap M4) HLEN.out (HL.out.below hal (zn _)) (by omega);have HO:Hid (w'.ownsRow w.heap.size 132 1 v' l.length (l.flatMap M4)):=by
   rcases hx with⟨_,h⟩|⟨h0,rfl,rfl⟩
   ·exact Da h (by simp)
   ·rw[h0,List.eq_nil_of_length_eq_zero h0]
    exact World.ownsRow_lit w #[] 0 (zn _) (by decide) rfl
  have HB:=zh (hal.trans (hb.mono hal.size));clear hx hb hal
  go_enter Tryz.func172,Tryz.ntmps172
  go_wp2_with (at_builtin;refine Lib.wpList_append_run _ rfl _ _ _ _ rfl _ _ rfl rfl _ _ hr ?_)
  go_ret
  exact⟨_,rfl,HO.out,HB.out⟩
theorem Abg(a:zZ)(c:Nat)(l:List D8)(lo:Nat)(w:zW)(hl:Sl w lo w.heap.size a (l.flatMap D6))(hll:l.length≤1048576):
  Calls Tryz.prog 143 #[.slice a l.length c] w fun e w'=>∃v,e= .returned v∧w'.ownsRow w.heap.size 115 8 v l.length (l.flatMap D6)∧Below w.heap.size w w':=by
 have heq:=fun W=>Lib.run_eql_slice_nil (P:=Tryz.prog) W 37 115 a l.length c 0 0 Tryz.underlying37;have hlen:(l.flatMap D6).length=l.length * 8:=Dd Dx l;have HLEN:=zh hlen;clear hlen
 have HL:=zh hl;clear hl
 cases a with
 |none=>
  have h0:l.length=0:=by
   rcases HL.out with h|⟨b,o,e,_⟩
   ·have:=HLEN.out;rw[h] at this;simp at this;omega
   ·cases e
  have HR:Hid (∀W:zW,W.ownsRow w.heap.size 115 8 (.slice none 0 0) l.length (l.flatMap D6)):=fun W=>by
   rw[h0,List.eq_nil_of_length_eq_zero h0];exact World.ownsRow_nil _ _ _ _
  clear h0;go_enter Tryz.func143,Tryz.ntmps143
  go_wp2_with fail
  go_ret
  exact⟨_,rfl,HR.out _,zb _ _⟩
 |some ad=>
  have hal:Below w.heap.size w (w.alloc (.cells #[] 115)):=(zb _ _).alloc (zn _) _;obtain⟨v',w',hr,hb,hx⟩:=Ep (P:=Tryz.prog) (w.alloc (.cells #[] 115)) 37 37 115 Tryz.underlying37 Ov rfl (by decide) (by decide) ⟨w.heap.size,0,none⟩ lo w.heap.size (some ad) l.length c (l.flatMap D6) HLEN.out (HL.out.below hal (zn _)) (by omega);have HO:Hid (w'.ownsRow w.heap.size 115 8 v' l.length (l.flatMap D6)):=by
   rcases hx with⟨_,h⟩|⟨h0,rfl,rfl⟩
   ·exact Da h (by simp)
   ·rw[h0,List.eq_nil_of_length_eq_zero h0]
    exact World.ownsRow_lit w #[] 0 (zn _) (by decide) rfl
  have HB:=zh (hal.trans (hb.mono hal.size));clear hx hb hal
  go_enter Tryz.func143,Tryz.ntmps143
  go_wp2_with (at_builtin;refine Lib.wpList_append_run _ rfl _ _ _ _ rfl _ _ rfl rfl _ _ hr ?_)
  go_ret
  exact⟨_,rfl,HO.out,HB.out⟩
theorem Akq(a:zZ)(c:Nat)(l:List Cf)(lo:Nat)(w:zW)(hl:Sl w lo w.heap.size a (l.flatMap Ez))(hll:l.length≤1048576):
  Calls Tryz.prog 174 #[.slice a l.length c] w fun e w'=>∃v,e= .returned v∧w'.ownsRow w.heap.size 147 2 v l.length (l.flatMap Ez)∧Below w.heap.size w w':=by
 have heq:=fun W=>Lib.run_eql_slice_nil (P:=Tryz.prog) W 38 147 a l.length c 0 0 Tryz.underlying38;have hlen:(l.flatMap Ez).length=l.length * 2:=Dd Dg l;have HLEN:=zh hlen;clear hlen
 have HL:=zh hl;clear hl
 cases a with
 |none=>
  have h0:l.length=0:=by
   rcases HL.out with h|⟨b,o,e,_⟩
   ·have:=HLEN.out;rw[h] at this;simp at this;omega
   ·cases e
  have HR:Hid (∀W:zW,W.ownsRow w.heap.size 147 2 (.slice none 0 0) l.length (l.flatMap Ez)):=fun W=>by
   rw[h0,List.eq_nil_of_length_eq_zero h0];exact World.ownsRow_nil _ _ _ _
  clear h0;go_enter Tryz.func174,Tryz.ntmps174
  go_wp2_with fail
  go_ret
  exact⟨_,rfl,HR.out _,zb _ _⟩
 |some ad=>
  have hal:Below w.heap.size w (w.alloc (.cells #[] 147)):=(zb _ _).alloc (zn _) _;obtain⟨v',w',hr,hb,hx⟩:=Ep (P:=Tryz.prog) (w.alloc (.cells #[] 147)) 38 38 147 Tryz.underlying38 T5 rfl (by decide) (by decide) ⟨w.heap.size,0,none⟩ lo w.heap.size (some ad) l.length c (l.flatMap Ez) HLEN.out (HL.out.below hal (zn _)) (by omega);have HO:Hid (w'.ownsRow w.heap.size 147 2 v' l.length (l.flatMap Ez)):=by
   rcases hx with⟨_,h⟩|⟨h0,rfl,rfl⟩
   ·exact Da h (by simp)
   ·rw[h0,List.eq_nil_of_length_eq_zero h0]
    exact World.ownsRow_lit w #[] 0 (zn _) (by decide) rfl
  have HB:=zh (hal.trans (hb.mono hal.size));clear hx hb hal
  go_enter Tryz.func174,Tryz.ntmps174
  go_wp2_with (at_builtin;refine Lib.wpList_append_run _ rfl _ _ _ _ rfl _ _ rfl rfl _ _ hr ?_)
  go_ret
  exact⟨_,rfl,HO.out,HB.out⟩
theorem Xl{w:zW}{B B':Nat}{e e':TypeId}{size size' n n':Nat}{v v':Value}{us us':List Value}(h:w.ownsRow B e size v n us)(h':w.ownsRow B' e' size' v' n' us')(hne:e≠e'):v.ownBlock=none∨v.ownBlock≠v'.ownBlock:=by
 rcases h.2 with⟨rfl,_⟩|⟨g,cap,cur,rfl,_,hg,_⟩
 ·exact .inl rfl
 ·right
  rcases h'.2 with⟨rfl,_⟩|⟨g',cap',cur',rfl,_,hg',_⟩
  ·intro e;cases e
  ·intro e1
   have e2:g=g':=by simpa [Value.ownBlock] using e1
   subst e2;rw[hg] at hg';simp only[Option.some.injEq,Obj.cells.injEq] at hg';exact hne hg'.2.1
theorem Fs{w:zW}{B:Nat}{e:TypeId}{size n m c:Nat}{a:zZ}{us:List Value}(h:w.ownsRow B e size (.slice a n c) m us)(hm:0 < m):∃rb,a=some ⟨rb,0,none⟩:=by
 rcases h.2 with⟨_,rfl⟩|⟨g,cap,cur,hv,_⟩
 ·omega
 ·simp only[Value.slice.injEq] at hv
  exact⟨g,hv.1⟩
structure Eg (X:zW) (lo:Nat) (rows:List Bm):Prop where
 row:∀r∈rows,X.ownsRow lo 113 5 (.slice r.at_ r.items.length r.cap) r.items.length (r.items.flatMap Ax)
structure Dk (w:zW) (lo:Nat) (v1 v2 v3:Value) (rows:List Bm) (s:Aa):Prop where
 same:rows.map (·.items)=s.ready
 ready:w.ownsRow lo 132 1 v1 s.ready.length (rows.flatMap M4)
 rows:Eg w lo rows
 outs:w.ownsRow lo 115 8 v2 s.outs.length (s.outs.flatMap D6)
 ae:w.ownsRow lo 147 2 v3 s.ae.length (s.ae.flatMap Ez)
def Ey(s:Aa)(v1 v2 v3:Value):Array Value:= #[v1,v2,v3,.int .i64 s.ah,.int .i64 s.af,.int .i64 s.aw,.int .i64 s.ar,.int .i64 s.dropped]
theorem Eg.below{X X':zW}{lo:Nat}{rows:List Bm}(h:Eg X lo rows)(hb:Below X.heap.size X X'):Eg X' lo rows:=⟨fun r hr=>own_below (h.row r hr) hb⟩
theorem Eg.drew{X:zW}{lo:Nat}{rows:List Bm}(h:Eg X lo rows):Eg X.drew lo rows:=⟨fun r hr=>(h.row r hr).drew⟩
theorem Eg.da{X:zW}{lo:Nat}{rows:List Bm}(h:Eg X lo rows){a:Addr}(ha:a.block < lo)(u:Value):Eg (X.setCell a u) lo rows:=⟨fun r hr=>ownsRow_setCell_below (h.row r hr) ha u⟩
theorem Eg.kept{X X':zW}{lo lo':Nat}{rows:List Bm}{e:TypeId}{size n:Nat}{v:Value}{us:List Value}(h:Eg X lo rows)(ho:X.ownsRow lo' e size v n us)(hne:113≠e)(hg:X.grownBy X' v.ownBlock):Eg X' lo rows:=
 ⟨fun r hr=>(h.row r hr).kept hg (Xl (h.row r hr) ho hne)⟩
theorem Eg.nil(X:zW)(lo:Nat):Eg X lo []:=⟨fun _ h=>by cases h⟩
theorem Eg.snoc{X:zW}{lo:Nat}{rows:List Bm}{r:Bm}(h:Eg X lo rows)(hr:X.ownsRow lo 113 5 (.slice r.at_ r.items.length r.cap) r.items.length (r.items.flatMap Ax)):Eg X lo (rows++[r]):=
 ⟨fun x hx=>by
  rcases List.mem_append.1 hx with h1|h1
  ·exact h.row x h1
  ·obtain rfl:=List.mem_singleton.1 h1;exact hr⟩
theorem Eg.wider{X:zW}{lo lo':Nat}{rows:List Bm}(h:Eg X lo rows)(hl:lo'≤lo):Eg X lo' rows:=⟨fun r hr=>Da (h.row r hr) hl⟩
theorem Dk.below{w w':zW}{lo:Nat}{v1 v2 v3:Value}{rows:List Bm}{s:Aa}(h:Dk w lo v1 v2 v3 rows s)(hb:Below w.heap.size w w'):Dk w' lo v1 v2 v3 rows s:=
 ⟨h.same,own_below h.ready hb,h.rows.below hb,own_below h.outs hb,own_below h.ae hb⟩
theorem Dk.da{w:zW}{lo:Nat}{v1 v2 v3:Value}{rows:List Bm}{s:Aa}(h:Dk w lo v1 v2 v3 rows s){a:Addr}(ha:a.block < lo)(u:Value):Dk (w.setCell a u) lo v1 v2 v3 rows s:=
 ⟨h.same,ownsRow_setCell_below h.ready ha u,h.rows.da ha u,ownsRow_setCell_below h.outs ha u,ownsRow_setCell_below h.ae ha u⟩
theorem Dk.wider{w:zW}{lo lo':Nat}{v1 v2 v3:Value}{rows:List Bm}{s:Aa}(h:Dk w lo v1 v2 v3 rows s)(hl:lo'≤lo):Dk w lo' v1 v2 v3 rows s:=
 ⟨h.same,Da h.ready hl,h.rows.wider hl,Da h.outs hl,Da h.ae hl⟩
theorem Dk.dg{w:zW}{lo:Nat}{v1 v2 v3:Value}{rows:List Bm}{s:Aa}(h:Dk w lo v1 v2 v3 rows s){g:Nat}(hg:g < lo)(u0 u1 u2 u3 u4 u5 u6 u7:Value):
  Dk ((((((((w.setCell ⟨g,0,none⟩ u0).setCell ⟨g,1,none⟩ u1).setCell ⟨g,2,none⟩ u2).setCell ⟨g,3,none⟩ u3).setCell ⟨g,4,none⟩ u4).setCell ⟨g,5,none⟩ u5).setCell ⟨g,6,none⟩ u6).setCell ⟨g,7,none⟩ u7) lo v1 v2 v3 rows s:=
 (((((((h.da hg u0).da hg u1).da hg u2).da hg u3).da hg u4).da hg u5).da hg u6).da hg u7
theorem Dk.bc{w:zW}{lo n1 n2 n3 c1 c2 c3:Nat}{a1 a2 a3:zZ}{rows:List Bm}{s:Aa}(h:Dk w lo (.slice a1 n1 c1) (.slice a2 n2 c2) (.slice a3 n3 c3) rows s):Av w lo w.heap.size a1 a2 a3 rows s∧n1=s.ready.length∧n2=s.outs.length∧n3=s.ae.length:=by
 have q:∀ {e:TypeId} {size n m c:Nat} {a:zZ} {us:List Value},w.ownsRow lo e size (.slice a n c) m us→n=m:=fun h=>by
  rcases h.2 with⟨h1,h2⟩|⟨g,cap,cur,hv,_⟩
  ·simp only[Value.slice.injEq] at h1;omega
  ·simp only[Value.slice.injEq] at hv;omega
 have e1:=q h.ready;have e2:=q h.outs;have e3:=q h.ae;subst e1 e2 e3;exact⟨⟨h.same,Sl.cu h.ready,fun r hr=>⟨Sl.cu (h.rows.row r hr),by obtain⟨_,_,e,hc⟩:=Ae (h.rows.row r hr);simp only[Value.slice.injEq] at e;omega⟩,Sl.cu h.outs,Sl.cu h.ae⟩,rfl,rfl,rfl⟩
def Aa8(r:Bm):Value:= .slice r.at_ r.items.length r.cap
theorem Nm(l:List Bm):l.flatMap M4=l.map Aa8:=by
 induction l with
 |nil=>rfl
 |cons x r ih=>rw[List.flatMap_cons,List.map_cons,ih];rfl
theorem Azr{done rows:List Bm}{j:Nat}(hd:done.length=j)(hj:j < rows.length):((done++rows.drop j).flatMap M4)[j]? =some (Aa8 rows[j]):=by
 rw[Nm,List.getElem?_map,List.getElem?_append_right (by omega),hd,Nat.sub_self,List.getElem?_drop,Nat.add_zero,zG hj];rfl
theorem Axh{done rows:List Bm}{j:Nat}(hd:done.length=j)(hj:j < rows.length)(r:Bm):((done++rows.drop j).flatMap M4).set j (Aa8 r)=((done++[r])++rows.drop (j+1)).flatMap M4:=by
 rw[Nm,Nm,List.drop_eq_getElem_cons hj,List.map_append,List.map_cons,List.set_append,zq (by rw[List.length_map];omega),List.length_map,hd,Nat.sub_self,zB,List.map_append,List.map_append,List.append_assoc];rfl
def Arp(w:zW)(lo:Nat)(A:zZ)(C:Nat)(rows:List Bm)(cs:Array Value)(i:Value)(X:zW):Prop:=
 ∃(j:Nat)(done:List Bm),j≤rows.length∧i= .int .i64 j∧done.map (·.items)=(rows.take j).map (·.items)∧Eg X lo done∧X.ownsRow lo 132 1 (.slice A rows.length C) rows.length ((done++rows.drop j).flatMap M4)∧
  Bk X w.heap.size 40 cs∧Bk X (w.heap.size+1) 40 zeroCells∧Below w.heap.size w X∧lo≤X.heap.size
theorem Aat(s:Aa)(a1 a2 a3:zZ)(c1 c2 c3:Nat)(rows:List Bm)(w:zW)(hs:Av w 0 w.heap.size a1 a2 a3 rows s)(hss:Ap s):
  Calls Tryz.prog 135 #[Ad s a1 a2 a3 c1 c2 c3] w fun e w'=>∃v1 v2 v3 rows',e= .returned (.agg (Ey s v1 v2 v3))∧Dk w' w.heap.size v1 v2 v3 rows' s∧Below w.heap.size w w':=by
 have hlen:s.ready.length=rows.length:=by rw[←hs.same,List.length_map]
 have hrl:=hss.ready;have hol:=hss.outs;have htl:=hss.ae;have hrows:∀r∈rows,r.items.length≤1048576:=fun r hr=>(hss.row r.items (by rw[←hs.same];exact List.mem_map_of_mem hr)).len;unfold Ad Ag;rw[hlen] at hrl⊢;have HLEN:=zh hlen;have HS:=zh hs;have HROWS:=zh hrows;clear hlen hs hss hrows;go_enter Tryz.func135,Tryz.ntmps135
 go_wp2_with fail
 obtain⟨W0,hW0⟩:=zo ((w.alloc (.cells #[.slice a1 rows.length c1,.slice a2 s.outs.length c2,.slice a3 s.ae.length c3,.int .i64 s.ah,.int .i64 s.af,.int .i64 s.aw,.int .i64 s.ar,.int .i64 s.dropped] 40)).alloc (.cells zO 40));have hk0:Bk W0 w.heap.size 40 #[.slice a1 rows.length c1,.slice a2 s.outs.length c2,.slice a3 s.ae.length c3,.int .i64 s.ah,.int .i64 s.af,.int .i64 s.aw,.int .i64 s.ar,.int .i64 s.dropped]:=by rw[←hW0];exact(Bk.new _ _ _).alloc _
 have hr0:Bk W0 (w.heap.size+1) 40 zeroCells:=by rw[←hW0];exact Bk.cg _ _ _ (by simp)
 have hz0:W0.heap.size=w.heap.size+2:=by rw[←hW0];simp
 have hb0:Below w.heap.size w W0:=by rw[←hW0];exact((zb _ _).alloc (zn _) _).alloc (by simp) _
 rw[hW0];clear hW0;refine(Akp a1 c1 rows 0 W0 ((HS.out.ready.below hb0 (zn _)).wider (zn _) hb0.size) (by omega)).mono ?_;rintro e W1 ⟨v1,rfl,ho1,hb1⟩;obtain⟨A,C,rfl,hc1⟩:=Ae ho1;have hk1:=hk0.below hb1 hk0.lt;have hr1:=hr0.below hb1 hr0.lt;have hb01:=hb0.trans (hb1.mono hb0.size);have m0:W1.cell? ⟨w.heap.size,0,none⟩=some (.slice a1 rows.length c1):=hk1.cell 0;have f0:=hk1.frozen 0;have hlt1:=hk1.lt;have hst:Arp w (w.heap.size+2) A C rows #[.slice A rows.length C,.slice a2 s.outs.length c2,.slice a3 s.ae.length c3,.int .i64 s.ah,.int .i64 s.af,.int .i64 s.aw,.int .i64 s.ar,.int .i64 s.dropped] (.int .i64 0) (W1.setCell ⟨w.heap.size,0,none⟩ (.slice A rows.length C)):=by
  refine⟨0,[],by omega,rfl,rfl,Eg.nil _ _,?_,hk1.ck 0 _,hr1.far (by show w.heap.size+1≠w.heap.size;omega) _,hb01.setCell (p:=⟨w.heap.size,0,none⟩) (zn _) _,by have:=hb1.size;simp[World.setCell];omega⟩;rw[List.nil_append,List.drop_zero];exact ownsRow_setCell_below (Da ho1 (by omega)) (a:=⟨w.heap.size,0,none⟩) (by show w.heap.size < w.heap.size+2;omega) _
 have HST:=zh hst;clear hk0 hr0 hb0 ho1 hb1 hk1 hr1 hst hz0;go_wp2_with fail
 clear m0 f0 hlt1 hb01
 go_loopw [3,11] (fun q i X=>Arp w (w.heap.size+2) A C rows #[.slice A rows.length C,.slice a2 s.outs.length c2,.slice a3 s.ae.length c3,.int .i64 s.ah,.int .i64 s.af,.int .i64 s.aw,.int .i64 s.ar,.int .i64 s.dropped] i X) (fun _ i _=>rows.length - (intOf i).toNat)
 case atStart=>exact HST.out
 case round=>
  clear HST;obtain⟨j,done,hj,rfl,hd,hro,hor,hkb,hkr,hB,hlo⟩:=hrel;have hdl:done.length=j:=by
   have:=congrArg List.length hd;rw[List.length_map,List.length_map,List.length_take] at this;omega
  by_cases hjl:j < rows.length
  ·obtain⟨g,rfl⟩:=Fs hor (by omega)
   have hrw:=HS.out.row rows[j] (zg hjl);have hri:=HROWS.out rows[j] (zg hjl);have hcj:wr.cell? ⟨g,j,none⟩=some (Aa8 rows[j]):=by rw[hor.cellAt j (by omega)];exact Azr hdl hjl
   have hset:=Axh hdl hjl;have htk:(rows.take (j+1)).map (·.items)=(rows.take j).map (·.items)++[rows[j].items]:=by rw[zj hjl,List.map_append];rfl
   have HSET:=zh hset;have HTK:=zh htk;clear hset htk;generalize rows[j]=r at *;obtain⟨ra,rc,ri⟩:=r;unfold Aa8 at hcj;dsimp only at hcj hrw hri;have hg2:=(hor.lt g rfl).1;have c0:wr.drew.cell? ⟨w.heap.size,0,none⟩=some (.slice (some ⟨g,0,none⟩) rows.length C):=hkb.cell 0;have cj:wr.drew.cell? ⟨g,j,none⟩=some (.slice ra ri.length rc):=hcj;have m0:wr.cell? ⟨w.heap.size,0,none⟩=some (.slice (some ⟨g,0,none⟩) rows.length C):=hkb.cell 0;have HH:=zh (zi hro (zi hor (zi hkb (zi hkr (zi hB hlo)))));have HRW:=zh hrw;have HD:=zh hd;clear hro hor hkb hkr hB hlo hrw hd hcj;go_upto_region 5 with fail
   clear m0;have hsl:Sl wr.drew 0 wr.drew.heap.size ra (ri.flatMap Ax):=(HRW.out.1.below HH.out.2.2.2.2.1.drew (zn _)).wider (zn _) HH.out.2.2.2.2.1.size;refine Kl [(0,false),(1,false),(2,false),(3,false),(4,false),(5,false),(6,false),(7,true),(8,true),(9,false),(10,true)] (by kernel_rfl) (fun hOrd=> ?_);refine Rt (S:=(fun W=>W.cell? ⟨w.heap.size,0,none⟩=some (.slice (some ⟨g,0,none⟩) rows.length C))) hOrd (by kernel_rfl) (by first|assumption|exact c0|exact cc1|exact cc2) (fun hHeld=> ?_);clear hOrd
   iterate 11 ((first|(refine zT ?_)|(refine zL ?_)|(refine NW.call rfl (fun K hK=> ?_);go_simp;((go_at_call 173;(with_reducible refine(Xx ra rc ri 0 wr.drew hsl hri).mono ?_);rintro e wk ⟨v,rfl,ho,hb⟩;obtain⟨ra2,rc2,rfl,_⟩:=Ae ho;have hor1:=own_below HH.out.2.1.drew hb;have hkb1:=Bk.below (w:=wr.drew) HH.out.2.2.1 hb HH.out.2.2.1.lt;have cc1:=hkb1.cell 0;have cj1:wk.cell? ⟨g,j,none⟩=some (.slice ra ri.length rc):=(hb.cell (p:=⟨g,j,none⟩) (HH.out.2.1.lt g rfl).2).trans cj;have f1:=hor1.frozenAt j;have hl1:=(hor1.lt g rfl).2;have cc2:=(hkb1.far (p:=⟨g,j,none⟩) (by show w.heap.size≠g;omega) (.slice ra2 ri.length rc2)).cell 0;have HK1:=zh (zi ho (zi hor1 (zi hkb1 hb)));clear ho hor1 hkb1 hb));refine zk hK (by first|assumption|exact c0|exact cc1|exact cc2) (fun hHeld=> ?_);clear hK K)|(refine NW.call rfl (fun K hK=> ?_);go_simp;refine hK.out _ _ (by first|assumption|exact c0|exact cc1|exact cc2) (fun hHeld=> ?_);clear hK K)))
   refine NW.done ?_;have hst:=HK1.out.2.1.stored j (.slice ra2 ri.length rc2);have HFIN:Hid (Arp w (w.heap.size+2) (some ⟨g,0,none⟩) C rows #[.slice (some ⟨g,0,none⟩) rows.length C,.slice a2 s.outs.length c2,.slice a3 s.ae.length c3,.int .i64 s.ah,.int .i64 s.af,.int .i64 s.aw,.int .i64 s.ar,.int .i64 s.dropped] (.int .i64 ((j+1:Nat):Int)) (wk.setCell ⟨g,j,none⟩ (.slice ra2 ri.length rc2))):=by
    obtain⟨ho,hor1,hkb1,hb⟩:=HK1.out;obtain⟨hro,hor,hkb,hkr,hB,hlo⟩:=HH.out;have hkr1:=Bk.below (w:=wr.drew) hkr hb hkr.lt;refine⟨j+1,done++[⟨ra2,rc2,ri⟩],hjl,rfl,?_,Eg.snoc ((hro.drew.below hb).kept hor1 (by decide) hst.2) ((Da ho hlo).kept hst.2 (Xl ho hor1 (by decide))),?_,hkb1.far (p:=⟨g,j,none⟩) (by show w.heap.size≠g;omega) _,hkr1.far (p:=⟨g,j,none⟩) (by show w.heap.size+1≠g;omega) _,(hB.drew.trans (hb.mono hB.drew.size)).setCell (p:=⟨g,j,none⟩) (by show w.heap.size≤g;omega) _,?_⟩
    ·rw[List.map_append,HTK.out,HD.out];rfl
    ·have h:=hst.1
     rw[show(Value.slice ra2 ri.length rc2)=Aa8 ⟨ra2,rc2,ri⟩ from rfl,HSET.out] at h;exact h
    ·have h1:=hb.size
     have h2:wr.drew.heap.size=wr.heap.size:=rfl;simp[World.setCell];omega
   clear hst;go_wp2_with fail
   exact⟨by rw[show((j:Int)+1)=((j+1:Nat):Int) by omega] at *;exact HFIN.out,by simp[intOf];omega⟩
  ·obtain rfl:j=rows.length:=by omega
   rw[List.take_length] at hd;rw[List.drop_length,List.append_nil] at hor;obtain⟨_,k1,k2,_⟩:=Af hkb;have f1:=hkb.frozen 1;have hlt:=hkb.lt;have HH:=zh (zi hro (zi hor (zi hkb (zi hkr (zi hB hlo)))));have HD:=zh hd;clear hro hor hkb hkr hB hlo hd;go_wp2_with fail
   refine(Abg a2 c2 s.outs 0 wr ((HS.out.outs.below HH.out.2.2.2.2.1 (zn _)).wider (zn _) HH.out.2.2.2.2.1.size) hol).mono ?_;rintro e X1 ⟨v2,rfl,ho2,hb2⟩;obtain⟨A2,C2,rfl,_⟩:=Ae ho2;have hkb1:=HH.out.2.2.1.below hb2 HH.out.2.2.1.lt;have HO2:=zh ho2;have HB2:=zh hb2;have HKB1:=zh hkb1;clear k1 k2 f1 hlt ho2 hb2;obtain⟨_,k1,k2,_⟩:=Af hkb1;have f1:=hkb1.frozen 1;have hlt:=hkb1.lt;have hk2:Bk (X1.setCell ⟨w.heap.size,1,none⟩ (.slice A2 s.outs.length C2)) w.heap.size 40 #[.slice A rows.length C,.slice A2 s.outs.length C2,.slice a3 s.ae.length c3,.int .i64 s.ah,.int .i64 s.af,.int .i64 s.aw,.int .i64 s.ar,.int .i64 s.dropped]:=hkb1.ck 1 _;clear hkb1;go_wp2_with fail
   obtain⟨X2,hX2⟩:=zo (X1.setCell ⟨w.heap.size,1,none⟩ (.slice A2 s.outs.length C2));have HX2:Hid (Eg X2 (w.heap.size+2) done∧X2.ownsRow (w.heap.size+2) 132 1 (.slice A rows.length C) rows.length (done.flatMap M4)∧X2.ownsRow (w.heap.size+2) 115 8 (.slice A2 s.outs.length C2) s.outs.length (s.outs.flatMap D6)∧Bk X2 (w.heap.size+1) 40 zeroCells∧Below w.heap.size w X2):=by
    obtain⟨hro,hor,hkb,hkr,hB,hlo⟩:=HH.out;rw[←hX2];have hlt:(⟨w.heap.size,1,none⟩:Addr).block < w.heap.size+2:=by show w.heap.size < w.heap.size+2;omega
    exact⟨(hro.below HB2.out).da hlt _,ownsRow_setCell_below (own_below hor HB2.out) hlt _,ownsRow_setCell_below (Da HO2.out hlo) hlt _,(hkr.below HB2.out hkr.lt).far (p:=⟨w.heap.size,1,none⟩) (by show w.heap.size+1≠w.heap.size;omega) _,(hB.trans (HB2.out.mono hB.size)).setCell (p:=⟨w.heap.size,1,none⟩) (zn _) _⟩
   rw[hX2] at hk2;rw[hX2];have HK2:=zh hk2;clear hX2 hk2 k1 k2 f1 hlt HO2 HB2 HKB1 HH;refine(Akq a3 c3 s.ae 0 X2 ((HS.out.ae.below HX2.out.2.2.2.2 (zn _)).wider (zn _) HX2.out.2.2.2.2.size) htl).mono ?_;rintro e X3 ⟨v3,rfl,ho3,hb3⟩;obtain⟨A3,C3,rfl,_⟩:=Ae ho3;have hk3:=HK2.out.below hb3 HK2.out.lt;have hr3:=HX2.out.2.2.2.1.below hb3 HX2.out.2.2.2.1.lt;obtain⟨n0,n1,n2,n3,n4,n5,n6,n7,g0,g1,g2,g3,g4,g5,g6,g7,hlt⟩:=Af hk3;unfold zeroCells at hr3;obtain⟨k0,k1,k2,k3,k4,k5,k6,k7,f0,f1,f2,f3,f4,f5,f6,f7,hlt2⟩:=Af hr3;have HFIN:Hid (Dk X3 (w.heap.size+2) (.slice A rows.length C) (.slice A2 s.outs.length C2) (.slice A3 s.ae.length C3) done s∧Below w.heap.size w X3):=by
    obtain⟨hro,hor,hou,hkr,hB⟩:=HX2.out;refine⟨⟨HD.out.trans HS.out.same,by rw[HLEN.out];exact own_below hor hb3,hro.below hb3,own_below hou hb3,Da ho3 ?_⟩,hB.trans (hb3.mono hB.size)⟩;have:=hkr.lt;omega
   clear hk3 hr3 ho3 hb3;go_wp2_with fail
   have HF2:Hid (Dk (X3.setCell ⟨w.heap.size,2,none⟩ (.slice A3 s.ae.length C3)) (w.heap.size+2) (.slice A rows.length C) (.slice A2 s.outs.length C2) (.slice A3 s.ae.length C3) done s∧Below w.heap.size w (X3.setCell ⟨w.heap.size,2,none⟩ (.slice A3 s.ae.length C3))):=⟨HFIN.out.1.da (a:=⟨w.heap.size,2,none⟩) (by show w.heap.size < w.heap.size+2;omega) _,HFIN.out.2.setCell (p:=⟨w.heap.size,2,none⟩) (zn _) _⟩;refine bodyPost_ret (v:= .agg (Ey s (.slice A rows.length C) (.slice A2 s.outs.length C2) (.slice A3 s.ae.length C3))) (by simp[results,Tryz.results135,go_sem,Ey,k0,k1,k2,k3,k4,k5,k6,k7,hlt,hlt2]) rfl
    ⟨_,_,_,done,rfl,(HF2.out.1.dg (by omega) _ _ _ _ _ _ _ _).wider (by omega),Al HF2.out.2 (by omega) _ _ _ _ _ _ _ _⟩
theorem F0{w:zW}{B k:Nat}{e t:TypeId}{size n:Nat}{v:Value}{us:List Value}{cs:Array Value}(hown:w.ownsRow B e size v n us)(h:Bk w k t cs)(ht:t≠e):some k≠v.ownBlock:=by
 rcases hown.2 with⟨rfl,_⟩|⟨g,cap,cur,rfl,_,hg,_⟩
 ·intro e;cases e
 ·intro e1
  have e2:k=g:=by simpa [Value.ownBlock] using e1
  subst e2;unfold Bk at h;rw[hg] at h;simp only[Option.some.injEq,Obj.cells.injEq] at h;exact ht h.2.1.symm
theorem Ahc{W:zW}{B:Nat}{o:Oper}{a:Act}{K:Act→zW→Prop}{Q:Exit→Act→zW→Prop}(s x:Operand)(ho:o.op= .call { callee:= .builtin .append,args:= #[s,x],argTypes:= #[132,132] }){v:Value}{n:Nat}{us:List Value}(hs:a.eval s=v)(hown:W.ownsRow B 113 5 v n us)
  {ad:zZ} {m c lo hi:Nat} (hx:a.eval x= .slice ad m c) (hBW:B≤W.heap.size) {news:List Value} (hn:news.length=m * 5) (hm:n+m≤4294967296) (hsl:Sl W lo hi ad news) (h1:∀u∈news,u.oneCell'=true)
  (h:∀v' w',w'.ownsRow B 113 5 v' (n+m) (us++news)→W.grownBy w' v.ownBlock→K (a.put o.dst v') w'):o.wp Tryz.prog a W K Q:=by
 obtain⟨v',w',hr,ho',hg⟩:=Hk (P:=Tryz.prog) W B 132 o.type 113 Tryz.underlying132 Gq rfl (by decide) (by decide) v n us hown lo hi ad m c news hn hsl h1 hm hBW;exact Lib.wp_append_run W s x _ _ ho _ _ hs hx _ _ hr (h _ w' ho' hg)
theorem Aa7{W:zW}{B:Nat}{o:Oper}{a:Act}{K:Act→zW→Prop}{Q:Exit→Act→zW→Prop}(s x:Operand)(ho:o.op= .call { callee:= .builtin .append,args:= #[s,x],argTypes:= #[36,36] }){v:Value}{n:Nat}{us:List Value}(hs:a.eval s=v)(hown:W.ownsRow B 132 1 v n us)
  {ad:zZ} {m c lo hi:Nat} (hx:a.eval x= .slice ad m c) (hBW:B≤W.heap.size) {news:List Value} (hn:news.length=m * 1) (hm:n+m≤4294967296) (hsl:Sl W lo hi ad news) (h1:∀u∈news,u.oneCell'=true)
  (h:∀v' w',w'.ownsRow B 132 1 v' (n+m) (us++news)→W.grownBy w' v.ownBlock→K (a.put o.dst v') w'):o.wp Tryz.prog a W K Q:=by
 obtain⟨v',w',hr,ho',hg⟩:=Hk (P:=Tryz.prog) W B 36 o.type 132 Tryz.underlying36 Ago rfl (by decide) (by decide) v n us hown lo hi ad m c news hn hsl h1 hm hBW;exact Lib.wp_append_run W s x _ _ ho _ _ hs hx _ _ hr (h _ w' ho' hg)
def Amm(w:zW)(lo:Nat)(rows:List Bm)(cs:Array Value)(u1 u2 u3 u4 u5 u6 u7 i:Value)(X:zW):Prop:=
 ∃(j:Nat)(done:List Bm)(A:zZ)(C:Nat),j≤rows.length∧i= .int .i64 j∧done.map (·.items)=(rows.take j).map (·.items)∧Eg X lo done∧X.ownsRow lo 132 1 (.slice A j C) j (done.flatMap M4)∧
  Bk X w.heap.size 40 cs∧Bk X (w.heap.size+1) 40 zeroCells∧Bk X (w.heap.size+1+1) 40 #[.slice A j C,u1,u2,u3,u4,u5,u6,u7]∧Below w.heap.size w X∧lo≤X.heap.size
theorem Ke(s:Aa)(a1 a2 a3:zZ)(c1 c2 c3:Nat)(rows:List Bm)(w:zW)(hs:Av w 0 w.heap.size a1 a2 a3 rows s)(hss:Ap s):
  Calls Tryz.prog 106 #[Ad s a1 a2 a3 c1 c2 c3] w fun e w'=>∃v1 v2 v3 rows',e= .returned (.agg (Ey s v1 v2 v3))∧Dk w' w.heap.size v1 v2 v3 rows' s∧Below w.heap.size w w':=by
 have hlen:s.ready.length=rows.length:=by rw[←hs.same,List.length_map]
 have hrl:=hss.ready;have hol:=hss.outs;have htl:=hss.ae;have hrows:∀r∈rows,r.items.length≤1048576:=fun r hr=>(hss.row r.items (by rw[←hs.same];exact List.mem_map_of_mem hr)).len;unfold Ad Ag;rw[hlen] at hrl⊢;have HLEN:=zh hlen;have HS:=zh hs;have HROWS:=zh hrows;clear hlen hs hss hrows;go_enter Tryz.func106,Tryz.ntmps106
 go_wp2_with fail
 obtain⟨W0,hW0⟩:=zo (((w.alloc (.cells #[.slice a1 rows.length c1,.slice a2 s.outs.length c2,.slice a3 s.ae.length c3,.int .i64 s.ah,.int .i64 s.af,.int .i64 s.aw,.int .i64 s.ar,.int .i64 s.dropped] 40)).alloc (.cells zO 40)).alloc (.cells #[.slice none 0 0,.slice a2 s.outs.length c2,.slice a3 s.ae.length c3,.int .i64 s.ah,.int .i64 s.af,.int .i64 s.aw,.int .i64 s.ar,.int .i64 s.dropped] 40));have HST:Hid (Amm w (w.heap.size+3) rows #[.slice a1 rows.length c1,.slice a2 s.outs.length c2,.slice a3 s.ae.length c3,.int .i64 s.ah,.int .i64 s.af,.int .i64 s.aw,.int .i64 s.ar,.int .i64 s.dropped] (.slice a2 s.outs.length c2) (.slice a3 s.ae.length c3) (.int .i64 s.ah) (.int .i64 s.af) (.int .i64 s.aw) (.int .i64 s.ar) (.int .i64 s.dropped) (.int .i64 0) W0):=by
  refine(?_:Amm _ _ _ _ _ _ _ _ _ _ _ _ _);rw[←hW0];refine⟨0,[],none,0,by omega,rfl,rfl,Eg.nil _ _,World.ownsRow_nil _ _ _ _,?_,?_,?_,?_,?_⟩
  ·exact((Bk.new _ _ _).alloc _).alloc _
  ·exact(Bk.cg _ _ _ (by simp)).alloc _
  ·exact Bk.cg _ _ _ (by simp)
  ·exact(((zb _ _).alloc (zn _) _).alloc (by simp) _).alloc (by simp;omega) _
  ·simp
 rw[hW0];clear hW0
 go_loopw [4] (fun i X=>Amm w (w.heap.size+3) rows #[.slice a1 rows.length c1,.slice a2 s.outs.length c2,.slice a3 s.ae.length c3,.int .i64 s.ah,.int .i64 s.af,.int .i64 s.aw,.int .i64 s.ar,.int .i64 s.dropped] (.slice a2 s.outs.length c2) (.slice a3 s.ae.length c3) (.int .i64 s.ah) (.int .i64 s.af) (.int .i64 s.aw) (.int .i64 s.ar) (.int .i64 s.dropped) i X) (fun i _=>rows.length - (intOf i).toNat)
 case atStart=>
  exact HST.out
 case round=>
  clear HST;obtain⟨j,done,A,C,hj,rfl,hd,hro,hor,hkb,hkr,hkt,hB,hlo⟩:=hrel;by_cases hjl:j < rows.length
  ·obtain⟨b,o,ha,_,hbb,hcl⟩:=Bf El (by decide) HS.out.ready hjl
   have hrw:=HS.out.row rows[j] (zg hjl);have hri:=HROWS.out rows[j] (zg hjl);have hcj:w.cell? ⟨b,o+j,none⟩=some (Aa8 rows[j]):=by have:=hcl 0 (Aa8 rows[j]) rfl;simpa using this
   have htk:(rows.take (j+1)).map (·.items)=(rows.take j).map (·.items)++[rows[j].items]:=by rw[zj hjl,List.map_append];rfl
   have HTK:=zh htk;clear htk hcl;generalize rows[j]=r at *;obtain⟨ra,rc,ri⟩:=r;unfold Aa8 at hcj;dsimp only at hcj hrw hri;have HCJ:=zh hcj;subst ha;have HK:Hid (∀W,Bk W w.heap.size 40 #[.slice (some ⟨b,o,none⟩) rows.length c1,.slice a2 s.outs.length c2,.slice a3 s.ae.length c3,.int .i64 s.ah,.int .i64 s.af,.int .i64 s.aw,.int .i64 s.ar,.int .i64 s.dropped]→Below w.heap.size w W→W.cell? ⟨w.heap.size,0,none⟩=some (.slice (some ⟨b,o,none⟩) rows.length c1)∧W.cell? ⟨b,o+j,none⟩=some (.slice ra ri.length rc)):=fun W h1 h2=>⟨h1.cell 0,(h2.cell (p:=⟨b,o+j,none⟩) hbb).trans HCJ.out⟩;have m0:wr.cell? ⟨w.heap.size,0,none⟩=some (.slice (some ⟨b,o,none⟩) rows.length c1):=hkb.cell 0;have HH:=zh (zi hro (zi hor (zi hkb (zi hkr (zi hkt (zi hB hlo))))));have HRW:=zh hrw;have HD:=zh hd;have HSL:Hid (∀W,Below w.heap.size w W→Sl W 0 w.heap.size ra (ri.flatMap Ax)):=fun W h=>HRW.out.1.below h (zn _);have hylen:(ri.flatMap Ax).length=ri.length * 5:=Dd Cu ri;have hym:0+ri.length≤4294967296:=by omega
   go_upto_region 6 with fail
   clear m0;have k0:=HK.out wr.drew hkb hB.drew;have t0:wr.drew.cell? ⟨w.heap.size+1+1,0,none⟩=some (.slice A j C):=hkt.cell 0;have hby:Below wr.drew.heap.size wr.drew (wr.drew.alloc (.cells #[] 113)):=(zb _ _).alloc (zn _) _;have k1:=k0;have k2:=HK.out (wr.drew.alloc (.cells #[] 113)) (Bk.alloc (w:=wr.drew) hkb _) (hB.drew.alloc hB.drew.size _);have tw:wr.cell? ⟨w.heap.size+1+1,0,none⟩=some (.slice A j C):=hkt.cell 0;have t2:(wr.alloc (.cells #[] 113)).cell? ⟨w.heap.size+1+1,0,none⟩=some (.slice A j C):=(Bk.alloc hkt _).cell 0;have hy0:(wr.drew.alloc (.cells #[] 113)).ownsRow wr.drew.heap.size 113 5 (.slice (some ⟨wr.drew.heap.size,0,none⟩) 0 0) 0 []:=World.ownsRow_lit wr.drew #[] 0 (zn _) (by decide) rfl;have hyE:wr.drew.heap.size≤(wr.drew.alloc (.cells #[] 113)).heap.size:=hby.size;have hysl:=HSL.out (wr.drew.alloc (.cells #[] 113)) (hB.drew.alloc hB.drew.size _);clear hro hor hkb hkr hkt hrw hd hcj hlo;have HA10:Hid (∀(w8 w10:zW)(ra2 A2:zZ)(rc2 C2:Nat),w8.ownsRow wr.drew.heap.size 113 5 (.slice ra2 ri.length rc2) ri.length (ri.flatMap Ax)→Below wr.drew.heap.size wr.drew (w8.alloc (.cells #[.slice ra2 ri.length rc2] 132))→w10.ownsRow (w.heap.size+3) 132 1 (.slice A2 (j+1) C2) (j+1) (done.flatMap M4++[.slice ra2 ri.length rc2])→(w8.alloc (.cells #[.slice ra2 ri.length rc2] 132)).grownBy w10 (Value.slice A j C).ownBlock→(w10.cell? ⟨w.heap.size,0,none⟩=some (.slice (some ⟨b,o,none⟩) rows.length c1)∧w10.cell? ⟨b,o+j,none⟩=some (.slice ra ri.length rc))∧((w10.setCell ⟨w.heap.size+1+1,0,none⟩ (.slice A2 (j+1) C2)).cell? ⟨w.heap.size,0,none⟩=some (.slice (some ⟨b,o,none⟩) rows.length c1)∧(w10.setCell ⟨w.heap.size+1+1,0,none⟩ (.slice A2 (j+1) C2)).cell? ⟨b,o+j,none⟩=some (.slice ra ri.length rc))∧w10.cell? ⟨w.heap.size+1+1,0,none⟩=some (.slice A j C)∧w10.frozen? ⟨w.heap.size+1+1,0,none⟩=false∧w.heap.size+1+1 < w10.heap.size∧Amm w (w.heap.size+3) rows #[.slice (some ⟨b,o,none⟩) rows.length c1,.slice a2 s.outs.length c2,.slice a3 s.ae.length c3,.int .i64 s.ah,.int .i64 s.af,.int .i64 s.aw,.int .i64 s.ar,.int .i64 s.dropped] (.slice a2 s.outs.length c2) (.slice a3 s.ae.length c3) (.int .i64 s.ah) (.int .i64 s.af) (.int .i64 s.aw) (.int .i64 s.ar) (.int .i64 s.dropped) (.int .i64 ((j+1:Nat):Int)) (w10.setCell ⟨w.heap.size+1+1,0,none⟩ (.slice A2 (j+1) C2))):=zh fun w8 w10 ra2 A2 rc2 C2 ho8 h9 ho10 hg10=>by
    have HO8:=zh ho8;have H9:=zh h9;have HX:Hid (Bk w10 w.heap.size 40 #[.slice (some ⟨b,o,none⟩) rows.length c1,.slice a2 s.outs.length c2,.slice a3 s.ae.length c3,.int .i64 s.ah,.int .i64 s.af,.int .i64 s.aw,.int .i64 s.ar,.int .i64 s.dropped]∧Bk w10 (w.heap.size+1) 40 zeroCells∧Bk w10 (w.heap.size+1+1) 40 #[.slice A j C,.slice a2 s.outs.length c2,.slice a3 s.ae.length c3,.int .i64 s.ah,.int .i64 s.af,.int .i64 s.aw,.int .i64 s.ar,.int .i64 s.dropped]∧Eg w10 (w.heap.size+3) (done++[⟨ra2,rc2,ri⟩])∧Below w.heap.size w w10∧w.heap.size+3≤w10.heap.size):=by
     obtain⟨hro,hor,hkb,hkr,hkt,hB,hlo⟩:=HH.out;have ho9:=own_below hor.drew H9.out;refine⟨(Bk.below (w:=wr.drew) hkb H9.out hkb.lt).grown hg10 (F0 ho9 (Bk.below (w:=wr.drew) hkb H9.out hkb.lt) (by decide)),(Bk.below (w:=wr.drew) hkr H9.out hkr.lt).grown hg10 (F0 ho9 (Bk.below (w:=wr.drew) hkr H9.out hkr.lt) (by decide)),(Bk.below (w:=wr.drew) hkt H9.out hkt.lt).grown hg10 (F0 ho9 (Bk.below (w:=wr.drew) hkt H9.out hkt.lt) (by decide)),Eg.snoc ((hro.drew.below H9.out).kept ho9 (by decide) hg10) ?_,Br ho9 hg10 (hB.drew.trans (H9.out.mono hB.drew.size)) (by omega) (zr hB.drew.size H9.out.size),zr (zr hlo H9.out.size) hg10.size⟩;have h8:=HO8.out.alloc (.cells #[.slice ra2 ri.length rc2] 132);exact(Da h8 (by exact hlo)).kept hg10 (Xl h8 ho9 (by decide))
    have HO10:=zh ho10;have k10:=HK.out w10 HX.out.1 HX.out.2.2.2.2.1;have k12:=HK.out (w10.setCell ⟨w.heap.size+1+1,0,none⟩ (.slice A2 (j+1) C2)) (HX.out.1.far (p:=⟨w.heap.size+1+1,0,none⟩) (by show w.heap.size≠w.heap.size+1+1;omega) _) (HX.out.2.2.2.2.1.setCell (p:=⟨w.heap.size+1+1,0,none⟩) (by show w.heap.size≤w.heap.size+1+1;omega) _);refine⟨k10,k12,HX.out.2.2.1.cell 0,HX.out.2.2.1.frozen 0,HX.out.2.2.1.lt,?_⟩;obtain⟨x1,x2,x3,x4,x5,x6⟩:=HX.out;have hlt:(⟨w.heap.size+1+1,0,none⟩:Addr).block < w.heap.size+3:=by show w.heap.size+1+1 < w.heap.size+3;omega
    refine⟨j+1,done++[⟨ra2,rc2,ri⟩],A2,C2,hjl,rfl,by rw[List.map_append,HTK.out,HD.out];rfl,x4.da hlt _,?_,x1.far (p:=⟨w.heap.size+1+1,0,none⟩) (by show w.heap.size≠w.heap.size+1+1;omega) _,x2.far (p:=⟨w.heap.size+1+1,0,none⟩) (by show w.heap.size+1≠w.heap.size+1+1;omega) _,x3.ck 0 _,x5.setCell (p:=⟨w.heap.size+1+1,0,none⟩) (by show w.heap.size≤w.heap.size+1+1;omega) _,by simpa [World.setCell] using x6⟩;rw[List.flatMap_append];exact ownsRow_setCell_below HO10.out hlt _
   refine wp_region_held_drew (S:=(fun W=>W.cell? ⟨w.heap.size,0,none⟩=some (.slice (some ⟨b,o,none⟩) rows.length c1)∧W.cell? ⟨b,o+j,none⟩=some (.slice ra ri.length rc))) (by kernel_rfl) (by first|assumption|exact k0) (fun hHeld=> ?_)
   first|(refine zH 0 ?_)|(refine zU 0 ?_)
   first|(refine zH 3 ?_)|(refine zU 3 ?_)
   first|(refine zH 4 ?_)|(refine zU 4 ?_)
   first|(refine zH 5 ?_)|(refine zU 5 ?_)
   first|(refine zH 6 ?_)|(refine zU 6 ?_)
   first|(refine zH 7 ?_)|(refine zU 7 ?_)
   refine zR2 1 2 (fun K hK=> ?_) (fun K hK=> ?_)
   ·go_simp
    refine zk hK (by first|assumption|exact k1|exact k2|exact k8|exact k9|exact k10|exact k12) (fun hHeld=> ?_);clear hK K
    refine zR 2 fun K hK=> ?_
    go_simp
    refine zk hK (by first|assumption|exact k1|exact k2|exact k8|exact k9|exact k10|exact k12) (fun hHeld=> ?_);clear hK K
    refine zR 8 fun K hK=> ?_;rw[zp (by rfl)];refine Ahc (.tmp 16) (.tmp 21) rfl rfl hy0 rfl hyE hylen hym hysl (Kr _) ?_;rintro v8 w8 ho8 hg8;rw[Nat.zero_add,List.nil_append] at ho8;obtain⟨ra2,rc2,rfl,_⟩:=Ae ho8;have hb8:Below wr.drew.heap.size wr.drew w8:=hby.grown hg8 hby.size (fun k hk=>by exact Nat.le_of_eq (Option.some.inj hk));have k8:=HK.out w8 (Bk.below (w:=wr.drew) HH.out.2.2.1 hb8 HH.out.2.2.1.lt) (HH.out.2.2.2.2.2.1.drew.trans (hb8.mono HH.out.2.2.2.2.2.1.drew.size));have h9:Below wr.drew.heap.size wr.drew (w8.alloc (.cells #[.slice ra2 ri.length rc2] 132)):=hb8.alloc hb8.size _;have k9:=HK.out _ (Bk.below (w:=wr.drew) HH.out.2.2.1 h9 HH.out.2.2.1.lt) (HH.out.2.2.2.2.2.1.drew.trans (h9.mono HH.out.2.2.2.2.2.1.drew.size));have t8:w8.cell? ⟨w.heap.size+1+1,0,none⟩=some (.slice A j C):=(Bk.below (w:=wr.drew) HH.out.2.2.2.2.1 hb8 HH.out.2.2.2.2.1.lt).cell 0;have t9:(w8.alloc (.cells #[.slice ra2 ri.length rc2] 132)).cell? ⟨w.heap.size+1+1,0,none⟩=some (.slice A j C):=(Bk.below (w:=wr.drew) HH.out.2.2.2.2.1 h9 HH.out.2.2.2.2.1.lt).cell 0;have HO8:=zh ho8;have HB8:=zh hb8;have H9:=zh h9;clear hb8 ho8 hg8 h9;refine zk hK (by first|assumption|exact k1|exact k2|exact k8|exact k9|exact k10|exact k12) (fun hHeld=> ?_);clear hK K
    refine zR 9 fun K hK=> ?_
    go_simp
    refine zk hK (by first|assumption|exact k1|exact k2|exact k8|exact k9|exact k10|exact k12) (fun hHeld=> ?_);clear hK K
    refine zR 10 fun K hK=> ?_;rw[zp (by rfl)];refine Aa7 (.tmp 15) (.tmp 23) rfl rfl (own_below HH.out.2.1.drew H9.out) rfl (zr HH.out.2.2.2.2.2.2 H9.out.size) (m:=1) rfl (by omega) (Sl.new w8 [.slice ra2 ri.length rc2] 132 (w8.heap.size+1) (by omega)) (by intro u hu;rw[List.mem_singleton] at hu;rw[hu];rfl) ?_;rintro v10 w10 ho10 hg10;obtain⟨A2,C2,rfl,_⟩:=Ae ho10;obtain⟨k10,k12,t10,f10,l10,hend⟩:=HA10.out w8 w10 ra2 A2 rc2 C2 HO8.out H9.out ho10 hg10;have HEND:=zh hend;clear ho10 hg10 hend;refine zk hK (by first|assumption|exact k1|exact k2|exact k8|exact k9|exact k10|exact k12) (fun hHeld=> ?_);clear hK K;refine zH 11 ?_
    refine zR 12 fun K hK=> ?_
    go_simp
    refine zk hK (by first|assumption|exact k1|exact k2|exact k8|exact k9|exact k10|exact k12) (fun hHeld=> ?_);clear hK K
    refine zx ?_;clear k1 k2 k8 k9 k10 k12 t10 f10 l10 hHeld;go_wp2_with fail
    exact⟨by rw[show((j:Int)+1)=((j+1:Nat):Int) by omega] at *;exact HEND.out,by simp[intOf];omega⟩
   ·go_simp
    refine zk hK (by first|assumption|exact k1|exact k2|exact k8|exact k9|exact k10|exact k12) (fun hHeld=> ?_);clear hK K
    refine zR2 1 8 (fun K hK=> ?_) (fun K hK=> ?_)
    ·go_simp
     refine zk hK (by first|assumption|exact k1|exact k2|exact k8|exact k9|exact k10|exact k12) (fun hHeld=> ?_);clear hK K
     refine zR 8 fun K hK=> ?_;rw[zp (by rfl)];refine Ahc (.tmp 16) (.tmp 21) rfl rfl hy0 rfl hyE hylen hym hysl (Kr _) ?_;rintro v8 w8 ho8 hg8;rw[Nat.zero_add,List.nil_append] at ho8;obtain⟨ra2,rc2,rfl,_⟩:=Ae ho8;have hb8:Below wr.drew.heap.size wr.drew w8:=hby.grown hg8 hby.size (fun k hk=>by exact Nat.le_of_eq (Option.some.inj hk));have k8:=HK.out w8 (Bk.below (w:=wr.drew) HH.out.2.2.1 hb8 HH.out.2.2.1.lt) (HH.out.2.2.2.2.2.1.drew.trans (hb8.mono HH.out.2.2.2.2.2.1.drew.size));have h9:Below wr.drew.heap.size wr.drew (w8.alloc (.cells #[.slice ra2 ri.length rc2] 132)):=hb8.alloc hb8.size _;have k9:=HK.out _ (Bk.below (w:=wr.drew) HH.out.2.2.1 h9 HH.out.2.2.1.lt) (HH.out.2.2.2.2.2.1.drew.trans (h9.mono HH.out.2.2.2.2.2.1.drew.size));have t8:w8.cell? ⟨w.heap.size+1+1,0,none⟩=some (.slice A j C):=(Bk.below (w:=wr.drew) HH.out.2.2.2.2.1 hb8 HH.out.2.2.2.2.1.lt).cell 0;have t9:(w8.alloc (.cells #[.slice ra2 ri.length rc2] 132)).cell? ⟨w.heap.size+1+1,0,none⟩=some (.slice A j C):=(Bk.below (w:=wr.drew) HH.out.2.2.2.2.1 h9 HH.out.2.2.2.2.1.lt).cell 0;have HO8:=zh ho8;have HB8:=zh hb8;have H9:=zh h9;clear hb8 ho8 hg8 h9;refine zk hK (by first|assumption|exact k1|exact k2|exact k8|exact k9|exact k10|exact k12) (fun hHeld=> ?_);clear hK K
     refine zR 9 fun K hK=> ?_
     go_simp
     refine zk hK (by first|assumption|exact k1|exact k2|exact k8|exact k9|exact k10|exact k12) (fun hHeld=> ?_);clear hK K
     refine zR 10 fun K hK=> ?_;rw[zp (by rfl)];refine Aa7 (.tmp 15) (.tmp 23) rfl rfl (own_below HH.out.2.1.drew H9.out) rfl (zr HH.out.2.2.2.2.2.2 H9.out.size) (m:=1) rfl (by omega) (Sl.new w8 [.slice ra2 ri.length rc2] 132 (w8.heap.size+1) (by omega)) (by intro u hu;rw[List.mem_singleton] at hu;rw[hu];rfl) ?_;rintro v10 w10 ho10 hg10;obtain⟨A2,C2,rfl,_⟩:=Ae ho10;obtain⟨k10,k12,t10,f10,l10,hend⟩:=HA10.out w8 w10 ra2 A2 rc2 C2 HO8.out H9.out ho10 hg10;have HEND:=zh hend;clear ho10 hg10 hend;refine zk hK (by first|assumption|exact k1|exact k2|exact k8|exact k9|exact k10|exact k12) (fun hHeld=> ?_);clear hK K;refine zH 11 ?_
     refine zR 12 fun K hK=> ?_
     go_simp
     refine zk hK (by first|assumption|exact k1|exact k2|exact k8|exact k9|exact k10|exact k12) (fun hHeld=> ?_);clear hK K
     refine zx ?_;clear k1 k2 k8 k9 k10 k12 t10 f10 l10 hHeld;go_wp2_with fail
     exact⟨by rw[show((j:Int)+1)=((j+1:Nat):Int) by omega] at *;exact HEND.out,by simp[intOf];omega⟩
    ·rw[zp (by rfl)]
     refine Ahc (.tmp 16) (.tmp 21) rfl rfl hy0 rfl hyE hylen hym hysl (Kr _) ?_;rintro v8 w8 ho8 hg8;rw[Nat.zero_add,List.nil_append] at ho8;obtain⟨ra2,rc2,rfl,_⟩:=Ae ho8;have hb8:Below wr.drew.heap.size wr.drew w8:=hby.grown hg8 hby.size (fun k hk=>by exact Nat.le_of_eq (Option.some.inj hk));have k8:=HK.out w8 (Bk.below (w:=wr.drew) HH.out.2.2.1 hb8 HH.out.2.2.1.lt) (HH.out.2.2.2.2.2.1.drew.trans (hb8.mono HH.out.2.2.2.2.2.1.drew.size));have h9:Below wr.drew.heap.size wr.drew (w8.alloc (.cells #[.slice ra2 ri.length rc2] 132)):=hb8.alloc hb8.size _;have k9:=HK.out _ (Bk.below (w:=wr.drew) HH.out.2.2.1 h9 HH.out.2.2.1.lt) (HH.out.2.2.2.2.2.1.drew.trans (h9.mono HH.out.2.2.2.2.2.1.drew.size));have t8:w8.cell? ⟨w.heap.size+1+1,0,none⟩=some (.slice A j C):=(Bk.below (w:=wr.drew) HH.out.2.2.2.2.1 hb8 HH.out.2.2.2.2.1.lt).cell 0;have t9:(w8.alloc (.cells #[.slice ra2 ri.length rc2] 132)).cell? ⟨w.heap.size+1+1,0,none⟩=some (.slice A j C):=(Bk.below (w:=wr.drew) HH.out.2.2.2.2.1 h9 HH.out.2.2.2.2.1.lt).cell 0;have HO8:=zh ho8;have HB8:=zh hb8;have H9:=zh h9;clear hb8 ho8 hg8 h9;refine zk hK (by first|assumption|exact k1|exact k2|exact k8|exact k9|exact k10|exact k12) (fun hHeld=> ?_);clear hK K
     refine zR2 1 9 (fun K hK=> ?_) (fun K hK=> ?_)
     ·go_simp
      refine zk hK (by first|assumption|exact k1|exact k2|exact k8|exact k9|exact k10|exact k12) (fun hHeld=> ?_);clear hK K
      refine zR 9 fun K hK=> ?_
      go_simp
      refine zk hK (by first|assumption|exact k1|exact k2|exact k8|exact k9|exact k10|exact k12) (fun hHeld=> ?_);clear hK K
      refine zR 10 fun K hK=> ?_;rw[zp (by rfl)];refine Aa7 (.tmp 15) (.tmp 23) rfl rfl (own_below HH.out.2.1.drew H9.out) rfl (zr HH.out.2.2.2.2.2.2 H9.out.size) (m:=1) rfl (by omega) (Sl.new w8 [.slice ra2 ri.length rc2] 132 (w8.heap.size+1) (by omega)) (by intro u hu;rw[List.mem_singleton] at hu;rw[hu];rfl) ?_;rintro v10 w10 ho10 hg10;obtain⟨A2,C2,rfl,_⟩:=Ae ho10;obtain⟨k10,k12,t10,f10,l10,hend⟩:=HA10.out w8 w10 ra2 A2 rc2 C2 HO8.out H9.out ho10 hg10;have HEND:=zh hend;clear ho10 hg10 hend;refine zk hK (by first|assumption|exact k1|exact k2|exact k8|exact k9|exact k10|exact k12) (fun hHeld=> ?_);clear hK K;refine zH 11 ?_
      refine zR 12 fun K hK=> ?_
      go_simp
      refine zk hK (by first|assumption|exact k1|exact k2|exact k8|exact k9|exact k10|exact k12) (fun hHeld=> ?_);clear hK K
      refine zx ?_;clear k1 k2 k8 k9 k10 k12 t10 f10 l10 hHeld;go_wp2_with fail
      exact⟨by rw[show((j:Int)+1)=((j+1:Nat):Int) by omega] at *;exact HEND.out,by simp[intOf];omega⟩
     ·go_simp
      refine zk hK (by first|assumption|exact k1|exact k2|exact k8|exact k9|exact k10|exact k12) (fun hHeld=> ?_);clear hK K
      refine zR 1 fun K hK=> ?_
      go_simp
      refine zk hK (by first|assumption|exact k1|exact k2|exact k8|exact k9|exact k10|exact k12) (fun hHeld=> ?_);clear hK K
      refine zR 10 fun K hK=> ?_;rw[zp (by rfl)];refine Aa7 (.tmp 15) (.tmp 23) rfl rfl (own_below HH.out.2.1.drew H9.out) rfl (zr HH.out.2.2.2.2.2.2 H9.out.size) (m:=1) rfl (by omega) (Sl.new w8 [.slice ra2 ri.length rc2] 132 (w8.heap.size+1) (by omega)) (by intro u hu;rw[List.mem_singleton] at hu;rw[hu];rfl) ?_;rintro v10 w10 ho10 hg10;obtain⟨A2,C2,rfl,_⟩:=Ae ho10;obtain⟨k10,k12,t10,f10,l10,hend⟩:=HA10.out w8 w10 ra2 A2 rc2 C2 HO8.out H9.out ho10 hg10;have HEND:=zh hend;clear ho10 hg10 hend;refine zk hK (by first|assumption|exact k1|exact k2|exact k8|exact k9|exact k10|exact k12) (fun hHeld=> ?_);clear hK K;refine zH 11 ?_
      refine zR 12 fun K hK=> ?_
      go_simp
      refine zk hK (by first|assumption|exact k1|exact k2|exact k8|exact k9|exact k10|exact k12) (fun hHeld=> ?_);clear hK K
      refine zx ?_;clear k1 k2 k8 k9 k10 k12 t10 f10 l10 hHeld;go_wp2_with fail
      exact⟨by rw[show((j:Int)+1)=((j+1:Nat):Int) by omega] at *;exact HEND.out,by simp[intOf];omega⟩
  ·obtain rfl:j=rows.length:=by omega
   rw[List.take_length] at hd;have hro0:=HS.out.outs.below hB (zn _);obtain⟨v2,w2,hr2,hb2,hx2⟩:=Ep (P:=Tryz.prog) (wr.alloc (.cells #[] 115)) 37 37 115 Tryz.underlying37 Ov rfl (by decide) (by decide) ⟨wr.heap.size,0,none⟩ 0 w.heap.size a2 s.outs.length c2 (s.outs.flatMap D6) (Dd Dx _) (HS.out.outs.below (hB.alloc hB.size _) (zn _)) (by omega);have ho2:w2.ownsRow wr.heap.size 115 8 v2 s.outs.length (s.outs.flatMap D6):=by
    rcases hx2 with⟨_,h⟩|⟨h0,rfl,rfl⟩
    ·exact Da h (by simp)
    ·rw[h0,List.eq_nil_of_length_eq_zero h0]
     exact World.ownsRow_lit wr #[] 0 (zn _) (by decide) rfl
   have hb02:Below wr.heap.size wr w2:=((zb _ _).alloc (zn _) _).trans (hb2.mono (by simp));obtain⟨A2,C2,rfl,_⟩:=Ae ho2;clear hx2 hb2 hro0;have hkt2:=hkt.below hb02 hkt.lt;have HM2:Hid (w2.cell? ⟨w.heap.size,2,none⟩=some (.slice a3 s.ae.length c3)):=(hkb.below hb02 hkb.lt).cell 2;have HT2:=zh hkt2;have HHH:=zh (zi hro (zi hor (zi hkb (zi hkr (zi hkt (zi hB hlo))))));have HO2:=zh (zi ho2 hb02);have HD:=zh hd;have HR2:=zh hr2;have m1':(wr.alloc (.cells #[] 115)).cell? ⟨w.heap.size,1,none⟩=some (.slice a2 s.outs.length c2):=(hkb.alloc _).cell 1;have m0:wr.cell? ⟨w.heap.size,0,none⟩=some (.slice a1 rows.length c1):=hkb.cell 0;have t1:w2.cell? ⟨w.heap.size+1+1,1,none⟩=some (.slice a2 s.outs.length c2):=hkt2.cell 1;have g1:=hkt2.frozen 1;have hlt:=hkt2.lt;have q2:(w2.setCell ⟨w.heap.size+1+1,1,none⟩ (.slice A2 s.outs.length C2)).cell? ⟨w.heap.size,2,none⟩=some (.slice a3 s.ae.length c3):=((hkb.below hb02 hkb.lt).far (p:=⟨w.heap.size+1+1,1,none⟩) (by show w.heap.size≠w.heap.size+1+1;omega) _).cell 2;have q3:((w2.setCell ⟨w.heap.size+1+1,1,none⟩ (.slice A2 s.outs.length C2)).alloc (.cells #[] 147)).cell? ⟨w.heap.size,2,none⟩=some (.slice a3 s.ae.length c3):=(((hkb.below hb02 hkb.lt).far (p:=⟨w.heap.size+1+1,1,none⟩) (by show w.heap.size≠w.heap.size+1+1;omega) _).alloc _).cell 2;clear hro hor hkb hkr hkt hB hlo hkt2 ho2 hb02 hd hr2;go_upto_region 8 with(at_builtin;refine Lib.wpList_append_run _ rfl _ _ _ _ rfl _ _ rfl rfl _ _ HR2.out ?_)
   clear m1' m0 t1 g1 hlt q2 q3;obtain⟨hro,hor,hkb,hkr,hkt,hB,hlo⟩:=HHH.out;obtain⟨ho2,hb02⟩:=HO2.out;have hkt2:=HT2.out;obtain⟨Y,hY⟩:=zo (w2.setCell ⟨w.heap.size+1+1,1,none⟩ (.slice A2 s.outs.length C2));have hlt3:(⟨w.heap.size+1+1,1,none⟩:Addr).block < w.heap.size+3:=by show w.heap.size+1+1 < w.heap.size+3;omega
   have hByY:Below w.heap.size w Y:=by rw[←hY];exact(hB.trans (hb02.mono hB.size)).setCell (p:=⟨w.heap.size+1+1,1,none⟩) (by show w.heap.size≤w.heap.size+1+1;omega) _
   have HY:Hid (Bk Y w.heap.size 40 #[.slice a1 rows.length c1,.slice a2 s.outs.length c2,.slice a3 s.ae.length c3,.int .i64 s.ah,.int .i64 s.af,.int .i64 s.aw,.int .i64 s.ar,.int .i64 s.dropped]∧Bk Y (w.heap.size+1) 40 zeroCells∧Bk Y (w.heap.size+1+1) 40 #[.slice A rows.length C,.slice A2 s.outs.length C2,.slice a3 s.ae.length c3,.int .i64 s.ah,.int .i64 s.af,.int .i64 s.aw,.int .i64 s.ar,.int .i64 s.dropped]∧Eg Y (w.heap.size+3) done∧Y.ownsRow (w.heap.size+3) 132 1 (.slice A rows.length C) rows.length (done.flatMap M4)∧Y.ownsRow (w.heap.size+3) 115 8 (.slice A2 s.outs.length C2) s.outs.length (s.outs.flatMap D6)∧Below w.heap.size w Y∧w.heap.size+3≤Y.heap.size):=by
    refine⟨?_,?_,?_,?_,?_,?_,hByY,?_⟩
    ·rw[←hY];exact(hkb.below hb02 hkb.lt).far (p:=⟨w.heap.size+1+1,1,none⟩) (by show w.heap.size≠w.heap.size+1+1;omega) _
    ·rw[←hY];exact(hkr.below hb02 hkr.lt).far (p:=⟨w.heap.size+1+1,1,none⟩) (by show w.heap.size+1≠w.heap.size+1+1;omega) _
    ·rw[←hY];exact hkt2.ck 1 _
    ·rw[←hY];exact(hro.below hb02).da hlt3 _
    ·rw[←hY];exact ownsRow_setCell_below (own_below hor hb02) hlt3 _
    ·rw[←hY];exact ownsRow_setCell_below (Da ho2 hlo) hlt3 _
    ·rw[←hY];have:=hb02.size;simp[World.setCell];omega
   obtain⟨v3,w3,hr3,hb3,hx3⟩:=Ep (P:=Tryz.prog) (Y.alloc (.cells #[] 147)) 38 38 147 Tryz.underlying38 T5 rfl (by decide) (by decide) ⟨Y.heap.size,0,none⟩ 0 w.heap.size a3 s.ae.length c3 (s.ae.flatMap Ez) (Dd Dg _) (HS.out.ae.below (hByY.alloc hByY.size _) (zn _)) (by omega);have ho3:w3.ownsRow Y.heap.size 147 2 v3 s.ae.length (s.ae.flatMap Ez):=by
    rcases hx3 with⟨_,h⟩|⟨h0,rfl,rfl⟩
    ·exact Da h (by simp)
    ·rw[h0,List.eq_nil_of_length_eq_zero h0]
     exact World.ownsRow_lit Y #[] 0 (zn _) (by decide) rfl
   have hb03:Below Y.heap.size Y w3:=((zb _ _).alloc (zn _) _).trans (hb3.mono (by simp));obtain⟨A3,C3,rfl,_⟩:=Ae ho3;clear hx3 hb3;have hkt3:=HY.out.2.2.1.below hb03 HY.out.2.2.1.lt;have hkr3:=HY.out.2.1.below hb03 HY.out.2.1.lt;unfold zeroCells at hkr3;obtain⟨n0,n1,n2,n3,n4,n5,n6,n7,h0,h1,h2,h3,h4,h5,h6,h7,hlt4⟩:=Af hkt3;obtain⟨k0,k1,k2,k3,k4,k5,k6,k7,f0,f1,f2,f3,f4,f5,f6,f7,hlt5⟩:=Af hkr3;have hlt6:(⟨w.heap.size+1+1,2,none⟩:Addr).block < w.heap.size+3:=by show w.heap.size+1+1 < w.heap.size+3;omega
   have HFIN:Hid (Dk (w3.setCell ⟨w.heap.size+1+1,2,none⟩ (.slice A3 s.ae.length C3)) (w.heap.size+3) (.slice A rows.length C) (.slice A2 s.outs.length C2) (.slice A3 s.ae.length C3) done s∧Below w.heap.size w (w3.setCell ⟨w.heap.size+1+1,2,none⟩ (.slice A3 s.ae.length C3))):=by
    obtain⟨y1,y2,y3,y4,y5,y6,y7,y8⟩:=HY.out;refine⟨⟨HD.out.trans HS.out.same,?_,(y4.below hb03).da hlt6 _,ownsRow_setCell_below (own_below y6 hb03) hlt6 _,ownsRow_setCell_below (Da ho3 y8) hlt6 _⟩,(y7.trans (hb03.mono y7.size)).setCell (p:=⟨w.heap.size+1+1,2,none⟩) (by show w.heap.size≤w.heap.size+1+1;omega) _⟩;rw[HLEN.out];exact ownsRow_setCell_below (own_below y5 hb03) hlt6 _
   rw[hY];have HR3:=zh hr3;have m3:(Y.alloc (.cells #[] 147)).cell? ⟨w.heap.size,2,none⟩=some (.slice a3 s.ae.length c3):=(HY.out.1.alloc _).cell 2;clear hY hro hor hkb hkr hkt hB hlo ho2 hb02 hkt2 hByY ho3 hb03 hkt3 hkr3 HY hlt3 hlt6 hr3;go_wp2_with (at_builtin;refine Lib.wpList_append_run _ rfl _ _ _ _ rfl _ _ rfl rfl _ _ HR3.out ?_)
   refine bodyPost_ret (v:= .agg (Ey s (.slice A rows.length C) (.slice A2 s.outs.length C2) (.slice A3 s.ae.length C3))) (by simp[results,Tryz.results106,go_sem,Ey,k0,k1,k2,k3,k4,k5,k6,k7,hlt4,hlt5]) rfl
    ⟨_,_,_,rfl,⟨done,(HFIN.out.1.dg (by omega) _ _ _ _ _ _ _ _).wider (by omega)⟩,Al HFIN.out.2 (by omega) _ _ _ _ _ _ _ _⟩
def Ah(ts:List TypeId)(w w':zW):Prop:=∀b t cs,t∉ts→Bk w b t cs→Bk w' b t cs
theorem Ah.refl(ts:List TypeId)(w:zW):Ah ts w w:=fun _ _ _ _ h=>h
theorem Ah.trans{ts:List TypeId}{w w1 w2:zW}(h:Ah ts w w1)(h':Ah ts w1 w2):Ah ts w w2:=fun b t cs ht hb=>h' b t cs ht (h b t cs ht hb)
theorem Ah.more{ts ts':List TypeId}{w w':zW}(h:Ah ts w w')(hs:∀t∈ts,t∈ts'):Ah ts' w w':=fun b t cs ht hb=>h b t cs (fun h1=>ht (hs t h1)) hb
theorem Ah.oqb{ts:List TypeId}{w w':zW}(h:Below w.heap.size w w'):Ah ts w w':=fun _ _ _ _ hb=>hb.below h hb.lt
theorem Ah.alloc(ts:List TypeId)(w:zW)(o:Obj):Ah ts w (w.alloc o):=fun _ _ _ _ hb=>hb.alloc o
theorem Ah.drew(ts:List TypeId)(w:zW):Ah ts w w.drew:=fun _ _ _ _ hb=>hb
theorem Ah.grown{ts:List TypeId}{w w':zW}{B:Nat}{e:TypeId}{size n:Nat}{v:Value}{us:List Value}(ho:w.ownsRow B e size v n us)(hg:w.grownBy w' v.ownBlock)(he:e∈ts):Ah ts w w':=
 fun _ _ _ ht hb=>hb.grown hg (F0 ho hb (fun e1=>ht (e1▸he)))
theorem Bk.ty{w:zW}{g:Nat}{t t':TypeId}{cs cs':Array Value}(h:Bk w g t cs)(h':Bk w g t' cs'):t=t':=by
 unfold Bk at h h';rw[h] at h';simp only[Option.some.injEq,Obj.cells.injEq] at h';exact h'.2.1
theorem Ah.set{ts:List TypeId}{w:zW}{g:Nat}{t:TypeId}{cs:Array Value}(h:Bk w g t cs)(ht:t∈ts)(i:Nat)(u:Value):Ah ts w (w.setCell ⟨g,i,none⟩ u):=
 fun b _ _ ht' hb=>hb.far (p:=⟨g,i,none⟩) (fun e:b=g=>by subst e;exact ht' (h.ty hb▸ht)) u
theorem Ah.dg{ts:List TypeId}{w:zW}{g:Nat}{t:TypeId}{cs:Array Value}(h:Bk w g t cs)(ht:t∈ts)(u0 u1 u2 u3 u4 u5 u6 u7:Value):
  Ah ts w ((((((((w.setCell ⟨g,0,none⟩ u0).setCell ⟨g,1,none⟩ u1).setCell ⟨g,2,none⟩ u2).setCell ⟨g,3,none⟩ u3).setCell ⟨g,4,none⟩ u4).setCell ⟨g,5,none⟩ u5).setCell ⟨g,6,none⟩ u6).setCell ⟨g,7,none⟩ u7):=by
 have h1:=h.ck 0 u0;have h2:=h1.ck 1 u1;have h3:=h2.ck 2 u2;have h4:=h3.ck 3 u3;have h5:=h4.ck 4 u4;have h6:=h5.ck 5 u5;have h7:=h6.ck 6 u6;exact(((((((Ah.set h ht 0 u0).trans (Ah.set h1 ht 1 u1)).trans (Ah.set h2 ht 2 u2)).trans (Ah.set h3 ht 3 u3)).trans (Ah.set h4 ht 4 u4)).trans (Ah.set h5 ht 5 u5)).trans (Ah.set h6 ht 6 u6)).trans (Ah.set h7 ht 7 u7)
theorem Ao5{W:zW}{g b i:Nat}{v:Option Value}(hb:b≠g)(h:W.cell? ⟨b,i,none⟩=v)(u0 u1 u2 u3 u4 u5 u6 u7:Value):
  ((((((((W.setCell ⟨g,0,none⟩ u0).setCell ⟨g,1,none⟩ u1).setCell ⟨g,2,none⟩ u2).setCell ⟨g,3,none⟩ u3).setCell ⟨g,4,none⟩ u4).setCell ⟨g,5,none⟩ u5).setCell ⟨g,6,none⟩ u6).setCell ⟨g,7,none⟩ u7).cell? ⟨b,i,none⟩=v:=by
 have e:∀(W:zW)(j:Nat)(u:Value),(W.setCell ⟨g,j,none⟩ u).cell? ⟨b,i,none⟩=W.cell? ⟨b,i,none⟩:=fun W j u=>by
  simp only[World.cell?,Below.heap_setCell W ⟨g,j,none⟩ u b hb]
 rw[e,e,e,e,e,e,e,e];exact h
theorem Ak4{W:zW}{g b i:Nat}{v:Option Value}(hb:b≠g)(h:W.cell? ⟨b,i,none⟩=v)(u0 u1 u2 u3 u4 u5 u6 u7:Value):
  ((((((((W.setCell ⟨g,0,none⟩ u0).setCell ⟨g,1,none⟩ u1).setCell ⟨g,2,none⟩ u2).setCell ⟨g,3,none⟩ u3).setCell ⟨g,4,none⟩ u4).setCell ⟨g,5,none⟩ u5).setCell ⟨g,6,none⟩ u6).setCell ⟨g,7,none⟩ u7).drew.cell? ⟨b,i,none⟩=v:=by
 rw[World.cell?_drew];exact Ao5 hb h u0 u1 u2 u3 u4 u5 u6 u7
theorem Dl{ts:List TypeId}{w w':zW}{B:Nat}{e:TypeId}{size n:Nat}{v:Value}{us:List Value}(h:w.ownsRow B e size v n us)(hk:Ah ts w w')(he:e∉ts):w'.ownsRow B e size v n us:=by
 obtain⟨hl,h⟩:=h;refine⟨hl,?_⟩;rcases h with h|⟨g,cap,cur,hv,hg,hh,r⟩
 ·exact .inl h
 ·exact .inr ⟨g,cap,cur,hv,hg,hk g e cur he hh,r⟩
def SlT(w:zW)(lo:Nat)(e:TypeId)(a:zZ)(us:List Value):Prop:=
 us=[]∨∃b o cs,a=some ⟨b,o,none⟩∧lo≤b∧Bk w b e cs∧∀j u,us[j]? =some u→cs[o+j]? =some u
theorem SlT.nil(w:zW)(lo:Nat)(e:TypeId)(a:zZ):SlT w lo e a []:= .inl rfl
theorem SlT.sl{w:zW}{lo:Nat}{e:TypeId}{a:zZ}{us:List Value}(h:SlT w lo e a us):Sl w lo w.heap.size a us:=by
 rcases h with h|⟨b,o,cs,rfl,h1,hb,hc⟩
 ·exact .inl h
 ·exact .inr ⟨b,o,rfl,h1,hb.lt,fun j u hu=>(hb.cell _).trans (hc j u hu)⟩
theorem SlT.cu{w:zW}{lo:Nat}{e:TypeId}{size n c:Nat}{a:zZ}{us:List Value}(h:w.ownsRow lo e size (.slice a n c) n us):SlT w lo e a us:=by
 obtain⟨hl,h⟩:=h;rcases h with⟨_,hn⟩|⟨g,cap,cur,hv,hg,hh,hnc,hm,hcs,ht⟩
 ·left
  subst hn;exact List.eq_nil_of_length_eq_zero (by simpa using hl)
 ·right
  simp only[Value.slice.injEq] at hv;obtain⟨rfl,_,rfl⟩:=hv;refine⟨g,0,cur,rfl,hg,hh,fun j u hu=> ?_⟩;rw[←ht,List.getElem?_take] at hu
  split at hu
  ·simpa using hu
  ·cases hu
theorem SlT.keep{ts:List TypeId}{w w':zW}{lo:Nat}{e:TypeId}{a:zZ}{us:List Value}(h:SlT w lo e a us)(hk:Ah ts w w')(he:e∉ts):SlT w' lo e a us:=by
 rcases h with h|⟨b,o,cs,ha,h1,hb,hc⟩
 ·exact .inl h
 ·exact .inr ⟨b,o,cs,ha,h1,hk b e cs he hb,hc⟩
theorem SlT.wider{w:zW}{lo lo':Nat}{e:TypeId}{a:zZ}{us:List Value}(h:SlT w lo e a us)(hl:lo'≤lo):SlT w lo' e a us:=by
 rcases h with h|⟨b,o,cs,ha,h1,hb,hc⟩
 ·exact .inl h
 ·exact .inr ⟨b,o,cs,ha,zr hl h1,hb,hc⟩
theorem SlT.cut{w:zW}{lo:Nat}{e:TypeId}{a:zZ}{us:List Value}(h:SlT w lo e a us){n cap k size:Nat}(hl:us.length=n * size)(hk:k≤n)(hc:n≤cap):SlT w lo e (E6 a cap k size) (us.drop (k * size)):=by
 rcases h with rfl|⟨b,o,cs,rfl,h1,hb,hcell⟩
 ·left;simp
 ·unfold E6
  split
  ·left
   apply List.drop_eq_nil_of_le
   rw[hl];exact Nat.mul_le_mul_right _ (by omega)
  ·right
   refine⟨b,o+k * size,cs,?_,h1,hb,fun j u hu=> ?_⟩
   ·simp only[Option.map_some,addr_add]
   ·have:=hcell (k * size+j) u (by simpa using hu)
    rw[show o+k * size+j=o+(k * size+j) from by omega];exact this
structure Ca (w:zW) (lo:Nat) (v1 v2 v3:Value) (rows:List Bm) (s:Aa):Prop where
 same:rows.map (·.items)=s.ready
 ready:w.ownsRow lo 132 1 v1 s.ready.length (rows.flatMap M4)
 row:∀r∈rows,SlT w lo 113 r.at_ (r.items.flatMap Ax)∧r.items.length≤r.cap
 outs:w.ownsRow lo 115 8 v2 s.outs.length (s.outs.flatMap D6)
 ae:w.ownsRow lo 147 2 v3 s.ae.length (s.ae.flatMap Ez)
theorem Dk.held{w:zW}{lo:Nat}{v1 v2 v3:Value}{rows:List Bm}{s:Aa}(h:Dk w lo v1 v2 v3 rows s):Ca w lo v1 v2 v3 rows s:=
 ⟨h.same,h.ready,fun r hr=>⟨SlT.cu (h.rows.row r hr),by obtain⟨_,_,e,hc⟩:=Ae (h.rows.row r hr);simp only[Value.slice.injEq] at e;omega⟩,h.outs,h.ae⟩
theorem Ca.kept{ts:List TypeId}{w w':zW}{lo:Nat}{v1 v2 v3:Value}{rows:List Bm}{s:Aa}(h:Ca w lo v1 v2 v3 rows s)(hk:Ah ts w w')
  (h1:132∉ts:=by decide) (h2:113∉ts:=by decide) (h3:115∉ts:=by decide) (h4:147∉ts:=by decide):Ca w' lo v1 v2 v3 rows s:=
 ⟨h.same,Dl h.ready hk h1,fun r hr=>⟨(h.row r hr).1.keep hk h2,(h.row r hr).2⟩,Dl h.outs hk h3,Dl h.ae hk h4⟩
theorem Ca.wider{w:zW}{lo lo':Nat}{v1 v2 v3:Value}{rows:List Bm}{s:Aa}(h:Ca w lo v1 v2 v3 rows s)(hl:lo'≤lo):Ca w lo' v1 v2 v3 rows s:=
 ⟨h.same,Da h.ready hl,fun r hr=>⟨(h.row r hr).1.wider hl,(h.row r hr).2⟩,Da h.outs hl,Da h.ae hl⟩
theorem Ca.outsTo{ts:List TypeId}{w w':zW}{lo:Nat}{v1 v2 v2' v3:Value}{rows:List Bm}{s:Aa}{l:List D8}(h:Ca w lo v1 v2 v3 rows s)(hk:Ah ts w w')(ho:w'.ownsRow lo 115 8 v2' l.length (l.flatMap D6))
  (h1:132∉ts:=by decide) (h2:113∉ts:=by decide) (h4:147∉ts:=by decide):Ca w' lo v1 v2' v3 rows { s with outs:=l } :=
 ⟨h.same,Dl h.ready hk h1,fun r hr=>⟨(h.row r hr).1.keep hk h2,(h.row r hr).2⟩,ho,Dl h.ae hk h4⟩
theorem Ca.nums{w:zW}{lo:Nat}{v1 v2 v3:Value}{rows:List Bm}{s:Aa}(h:Ca w lo v1 v2 v3 rows s)(a b c d e:Int):Ca w lo v1 v2 v3 rows ⟨s.ready,s.outs,s.ae,a,b,c,d,e⟩:=
 ⟨h.same,h.ready,h.row,h.outs,h.ae⟩
theorem Ca.bc{w:zW}{lo n1 n2 n3 c1 c2 c3:Nat}{a1 a2 a3:zZ}{rows:List Bm}{s:Aa}(h:Ca w lo (.slice a1 n1 c1) (.slice a2 n2 c2) (.slice a3 n3 c3) rows s):Av w lo w.heap.size a1 a2 a3 rows s∧n1=s.ready.length∧n2=s.outs.length∧n3=s.ae.length:=by
 have q:∀ {e:TypeId} {size n m c:Nat} {a:zZ} {us:List Value},w.ownsRow lo e size (.slice a n c) m us→n=m:=fun h=>by
  rcases h.2 with⟨h1,h2⟩|⟨g,cap,cur,hv,_⟩
  ·simp only[Value.slice.injEq] at h1;omega
  ·simp only[Value.slice.injEq] at hv;omega
 have e1:=q h.ready;have e2:=q h.outs;have e3:=q h.ae;subst e1 e2 e3;exact⟨⟨h.same,Sl.cu h.ready,fun r hr=>⟨(h.row r hr).1.sl,(h.row r hr).2⟩,Sl.cu h.outs,Sl.cu h.ae⟩,rfl,rfl,rfl⟩
theorem Ca.rowAt{w:zW}{lo g n C k:Nat}{v2 v3:Value}{rows:List Bm}{s:Aa}{l:List Ao}(h:Ca w lo (.slice (some ⟨g,0,none⟩) n C) v2 v3 rows s)(hn:n=s.ready.length)(hl:s.ready[k]? =some l):
  ∃ra rc,l.length≤rc∧SlT w lo 113 ra (l.flatMap Ax)∧(∀ts W,132∉ts→Ah ts w W→W.cell? ⟨g,k,none⟩=some (.slice ra l.length rc)∧W.frozen? ⟨g,k,none⟩=false∧g < W.heap.size):=by
 subst hn;rw[←h.same,List.getElem?_map,Option.map_eq_some_iff] at hl;obtain⟨r,hr,rfl⟩:=hl;obtain⟨hsl,hcap⟩:=h.row r (List.mem_of_getElem? hr);refine⟨r.at_,r.cap,hcap,hsl,fun ts W ht hk=> ?_⟩;have hW:=Dl h.ready hk ht;have hkl:k < rows.length:=(List.getElem?_eq_some_iff.1 hr).1;refine⟨?_,hW.frozenAt k,(hW.lt g rfl).2⟩;rw[hW.cellAt k (by rw[←h.same,List.length_map,Nat.mul_one];exact hkl),Nm,List.getElem?_map,hr];rfl
theorem SlT.head{w:zW}{lo:Nat}{a:zZ}{x:Ao}{l:List Ao}(h:SlT w lo 113 a ((x::l).flatMap Ax)):
  ∃rb ro,a=some ⟨rb,ro,none⟩∧lo≤rb∧∀ts W,113∉ts→Ah ts w W→(W.cell? ⟨rb,ro,none⟩=some (.int .i64 x.seq)∧W.cell? ⟨rb,ro+1,none⟩=some (.string x.key)∧W.cell? ⟨rb,ro+2,none⟩=some (.string x.body)∧W.cell? ⟨rb,ro+3,none⟩=some (.bool x.again)∧W.cell? ⟨rb,ro+4,none⟩=some (.int .i64 x.au)):=by
 rcases h with h|⟨b,o,cs,ha,h1,hb,hc⟩
 ·simp[Ax] at h
 ·refine⟨b,o,ha,h1,fun ts W ht hk=> ?_⟩
  have hW:=hk b _ cs ht hb;exact⟨(hW.cell _).trans (hc 0 _ rfl),(hW.cell _).trans (hc 1 _ rfl),(hW.cell _).trans (hc 2 _ rfl),(hW.cell _).trans (hc 3 _ rfl),(hW.cell _).trans (hc 4 _ rfl)⟩
theorem Ca.rowSet{w:zW}{lo g n C k:Nat}{v2 v3:Value}{rows:List Bm}{s:Aa}(h:Ca w lo (.slice (some ⟨g,0,none⟩) n C) v2 v3 rows s)(hn:n=s.ready.length)(ra:zZ)(rc:Nat)(l:List Ao)
  (hsl:SlT w lo 113 ra (l.flatMap Ax)) (hc:l.length≤rc):
  Ca (w.setCell ⟨g,k,none⟩ (.slice ra l.length rc)) lo (.slice (some ⟨g,0,none⟩) n C) v2 v3 (rows.set k ⟨ra,rc,l⟩) { s with ready:=s.ready.set k l } ∧Ah [132] w (w.setCell ⟨g,k,none⟩ (.slice ra l.length rc)):=by
 subst hn;have hst:=h.ready.stored k (.slice ra l.length rc);have hk:Ah [132] w (w.setCell ⟨g,k,none⟩ (.slice ra l.length rc)):=Ah.grown h.ready hst.2 (by decide);refine⟨⟨?_,?_,fun r hr=> ?_,Dl h.outs hk (by decide),Dl h.ae hk (by decide)⟩,hk⟩
 ·show(rows.set k ⟨ra,rc,l⟩).map (·.items)=s.ready.set k l
  rw[List.map_set,h.same]
 ·show World.ownsRow _ _ _ _ _ (s.ready.set k l).length _
  rw[List.length_set,Nm,List.map_set];have:=hst.1;rw[Nm] at this;exact this
 ·rcases List.mem_or_eq_of_mem_set hr with h1|rfl
  ·exact⟨(h.row r h1).1.keep hk (by decide),(h.row r h1).2⟩
  ·exact⟨hsl.keep hk (by decide),hc⟩
theorem Akh{W:zW}{B:Nat}{o:Oper}{a:Act}{K:Act→zW→Prop}{Q:Exit→Act→zW→Prop}(s x:Operand)(ho:o.op= .call { callee:= .builtin .append,args:= #[s,x],argTypes:= #[37,37] }){v:Value}{n:Nat}{us:List Value}(hs:a.eval s=v)(hown:W.ownsRow B 115 8 v n us)
  {ad:zZ} {m c lo hi:Nat} (hx:a.eval x= .slice ad m c) (hBW:B≤W.heap.size) {news:List Value} (hn:news.length=m * 8) (hm:n+m≤4294967296) (hsl:Sl W lo hi ad news) (h1:∀u∈news,u.oneCell'=true)
  (h:∀v' w',w'.ownsRow B 115 8 v' (n+m) (us++news)→W.grownBy w' v.ownBlock→K (a.put o.dst v') w'):o.wp Tryz.prog a W K Q:=by
 obtain⟨v',w',hr,ho',hg⟩:=Hk (P:=Tryz.prog) W B 37 o.type 115 Tryz.underlying37 Ov rfl (by decide) (by decide) v n us hown lo hi ad m c news hn hsl h1 hm hBW;exact Lib.wp_append_run W s x _ _ ho _ _ hs hx _ _ hr (h _ w' ho' hg)
theorem Xj(x:D8):∀u∈D6 x,u.oneCell'=true:=by
 intro u hu;simp only[D6,List.mem_cons,List.not_mem_nil,or_false] at hu;rcases hu with rfl|rfl|rfl|rfl|rfl|rfl|rfl|rfl<;>rfl
theorem Ca.lens{w:zW}{lo lo' n1 n2 n3 c1 c2 c3:Nat}{a1 a2 a3:zZ}{rows:List Bm}{s:Aa}(h:Ca w lo (.slice a1 n1 c1) (.slice a2 n2 c2) (.slice a3 n3 c3) rows s)(hl:lo'≤lo):Ca w lo' (.slice a1 s.ready.length c1) (.slice a2 s.outs.length c2) (.slice a3 s.ae.length c3) rows s:=by
 obtain⟨_,e1,e2,e3⟩:=h.bc;subst e1 e2 e3;exact h.wider hl
theorem Dm(W:zW)(lo:Nat):Ca W lo (.slice none Bd.ready.length 0) (.slice none Bd.outs.length 0) (.slice none Bd.ae.length 0) [] Bd:=
 ⟨rfl,World.ownsRow_nil _ _ _ _,fun r hr=>(by cases hr),World.ownsRow_nil _ _ _ _,World.ownsRow_nil _ _ _ _⟩
def M9(x:Aa)(n err:Int)(w:zW)(e:Ending)(w':zW):Prop:=
 ∃a1 a2 a3 c1 c2 c3 rows,e= .returned (.tuple #[Ad x a1 a2 a3 c1 c2 c3,.int .i64 n,.int .i64 err])∧Av w' w.heap.size w'.heap.size a1 a2 a3 rows x∧Below w.heap.size w w'
def Gj(x:Aa)(n err:Int)(w:zW)(e:Ending)(w':zW):Prop:=
 ∃a1 a2 a3 c1 c2 c3 rows,e= .returned (.tuple #[Ad x a1 a2 a3 c1 c2 c3,.int .i64 n,.int .i64 err])∧Ca w' w.heap.size (.slice a1 x.ready.length c1) (.slice a2 x.outs.length c2) (.slice a3 x.ae.length c3) rows x∧Below w.heap.size w w'
theorem Gj.post{x:Aa}{n err:Int}{w:zW}{e:Ending}{w':zW}(h:Gj x n err w e w'):M9 x n err w e w':=by
 obtain⟨a1,a2,a3,c1,c2,c3,rows,h1,h2,h3⟩:=h;exact⟨a1,a2,a3,c1,c2,c3,rows,h1,h2.bc.1,h3⟩
def Mn(x:Aa)(err:Int)(w:zW)(e:Ending)(w':zW):Prop:=
 ∃a1 a2 a3 c1 c2 c3 rows,e= .returned (.tuple #[Ad x a1 a2 a3 c1 c2 c3,.int .i64 err])∧Av w' w.heap.size w'.heap.size a1 a2 a3 rows x∧Below w.heap.size w w'
def G1(x:Aa)(err:Int)(w:zW)(e:Ending)(w':zW):Prop:=
 ∃a1 a2 a3 c1 c2 c3 rows,e= .returned (.tuple #[Ad x a1 a2 a3 c1 c2 c3,.int .i64 err])∧Ca w' w.heap.size (.slice a1 x.ready.length c1) (.slice a2 x.outs.length c2) (.slice a3 x.ae.length c3) rows x∧Below w.heap.size w w'
theorem G1.post{x:Aa}{err:Int}{w:zW}{e:Ending}{w':zW}(h:G1 x err w e w'):Mn x err w e w':=by
 obtain⟨a1,a2,a3,c1,c2,c3,rows,h1,h2,h3⟩:=h;exact⟨a1,a2,a3,c1,c2,c3,rows,h1,h2.bc.1,h3⟩
end Go.Proofs.YtpkneogjdfolaaaGreatDoor
