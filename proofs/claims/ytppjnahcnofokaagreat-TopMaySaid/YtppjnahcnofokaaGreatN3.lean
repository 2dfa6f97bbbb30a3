import Derived.Test.YtppjnahcnofokaaGreatN0
import Derived.Test.YtppjnahcnofokaaGreatN1
import Derived.Test.YtppjnahcnofokaaGreatN2
set_option maxRecDepth 100000
set_option maxHeartbeats 32000000
set_option linter.unusedSimpArgs false
set_option linter.unusedVariables false
namespace Go.Proofs.YtppjnahcnofokaaGreat.T
open Go.RowKit Go.Proofs.YtppjnahcnofokaaGreatW.PrintLast
open Go.Proofs.Tryz
variable{k:IntKind}{a:Act}{b i n B base m fuel D B':Nat}{l ch t0:List Int}{w w' w1 w2:World}{t:TypeId}{P:Program}{cs xs vs l3:List Value}{A A':Option Addr}{o oi:Oper}{e s f st fl:Int}{ops:Array Oper}{rest l0:List Oper}{v:Value}{r:Option Nat}{rs rs2:List (Option Addr×Nat×Nat×List Int)}{E:Prop}{ad ai go:List Bool}{N:Act->Prop}{place:Nat->Option (Nat×Nat)}{bad:Bool}{es es':List (Int×List Int)}{T:List TypeId}
theorem vw_crange{k:Int}{t:List Int}(h:VwOk t ad ch)(hC:Cel w b 45 (vw e t ad k ch)):w.rangeAt b 41 (ints .u8 ch):=by
 have:=Cel.range (l1:=.int .i64 e :: (ints .i64 t++(bools ad ++ [.int .i64 k]))) (l2:=ints .u8 ch) (l3:=[]) (by simpa[vw] using hC);have e:(Value.int IntKind.i64 e :: (ints .i64 t++(bools ad ++ [Value.int .i64 k]))).length=41:=by simp[ints_len,bools_len,h.tree,h.admins]
 rw[e]at this;exact this
theorem OwnB.drew(h:OwnB w base v n):OwnB w.drew base v n:=by
 obtain⟨l,h1,h2⟩:=h;exact⟨l,h1,h2.drew⟩
theorem rd_blk(h:Blk w b .u8 t l)(hn:l.length=n):Rd w .u8 (some ⟨b,0,none⟩) n n l:=by
 subst hn;exact⟨rfl,Nat.le_refl _,fun _=>⟨b,0,rfl,h.lt,h.range⟩⟩
theorem hi43(h:l.length=32):Hid ((prog.info? 43).map (·.size)=some (ints .u8 l).length):=by show _=_;rw[ints_len,h];exact info43
theorem vHash_any(e k:Int)(t ch:List Int)(ad:List Bool)(w:World)(h:VwOk t ad ch):Calls prog 97 #[.agg (vw e t ad k ch).toArray] w fun r w'=>IsH r/\Bl w w':=by
 obtain⟨w1,hW⟩:=ex_ ((w.alloc (.cells (vw e t ad k ch).toArray 45)).alloc (.cells (ints .u8 zl).toArray 43));have HC:Hid (Cel w1 w.heap.size 45 (vw e t ad k ch)):=by rw[hW];exact(Cel.new _ rfl rfl).alloc _
 have HZ:Hid (Row w1 (w.heap.size+1) .u8 43 32):=by rw[hW];exact Row.new zl _ rfl s_
 have Hb:Hid (Bl w w1):=by rw[hW];exact bal b0_
 have HV:=hd_ h;have HW:=hd_ hW;have HR:Hid (w1.rangeAt w.heap.size 32 (bools ad)):=by
  have:=Cel.range (l1:=.int .i64 e :: ints .i64 t) (l2:=bools ad) (l3:=[.int .i64 k]++ints .u8 ch) (by simpa[vw] using HC.out);have e:(Value.int IntKind.i64 e :: ints .i64 t).length=32:=by simp[ints_len,h.tree]
  rw[e]at this;exact this
 have HI:Hid ((prog.info? 41).map (·.size)=some (bools ad).length):=by show _=_;rw[bools_len,h.admins];exact info41
 have HIc:=hi43 h.chain;clear hW h;go_enter func97,ntmps97
 go_wp2_with ((change wpList _ _ _ _ _ ((w.alloc (.cells (vw e t ad k ch).toArray 45)).alloc (.cells (ints .u8 zl).toArray 43)));rw[<-HW.out];refine wpList_load_mid rfl 41 (.tmp 8) rr w.heap.size 32 rr (bools ad) _ HR.out underlying41 rfl HI.out ?_);go_loopw [3,10] (fun vx v wr=>∃(i m:Nat) (A3:Option Addr) (c3:Nat),v=.int .i64 i/\vx=.slice A3 m c3/\i<=8/\m=i/\Hid (OwnB wr w1.heap.size (.slice A3 m c3) m)/\Hid (Bl w1 wr)) (fun _ v _=>8-(intOf v).toNat)
 case atStart=>exact⟨0,0,none,0,rfl,rfl,Nat.zero_le _,rfl,OwnB.nil _ _,Below.refl _ _⟩
 case round=>
  obtain⟨i,m,A3,c3,rfl,rfl,hi,hm,hO,hb⟩:=hrel
  have HM:=hd_ hm
  have hm8:m<=8:=by omega
  clear hm
  by_cases hlt:i<8
  · obtain⟨b,hx⟩:=idx41 ad HV.out.admins i hlt wr;have HX:=hd_ hx;clear hx;obtain⟨l3,hl3,hO3⟩:=hO.out
    cases b with
    | false=>
     have hb1:Bl wr (wr.alloc (.cells #[.int .u8 0] 5)):=b0_;have Hb1:=tb_ hb hb1;have HO3:=hd_ (own_below hO3 hb1);have HL3:=hd_ hl3;clear hb1 hO3 hl3;go_wp2_with (first|(refine wpList_index rfl 41 (.tmp 9) (.tmp 10) rfl _ _ _ rr rr HX.out ?_)|(at_builtin;refine append_rg rfl (.tmp 14) (.tmp 16) 31 rfl w1.heap.size 5 1 1 et31 (.slice A3 m c3) m (ints .u8 l3) rfl HO3.out (some ⟨wr.heap.size,0,none⟩) 1 1 (ints .u8 [0]) rfl (rg_one wr 0) ints_one o_ (by unfold maxLen;omega) Hb1.out.size ?_;intro A4 c4 w4 hown4 hgrow hb4 hat));have HO4:Hid (OwnB w4 w1.heap.size (.slice A4 (m+1) c4) (m+1)):=OwnB.app HL3.out rfl hown4;have Hb4:=hd_ (Hb1.out.trans hb4);clear hown4 hgrow hb4 hat;go_wp2_with fail;exact⟨⟨i+1,m+1,A4,c4,by go_num,rfl,by omega,by have:=HM.out;omega,HO4,Hb4⟩,by simp[intOf];omega⟩
    | true=>
     have hb1:Bl wr (wr.alloc (.cells #[.int .u8 1] 5)):=b0_;have Hb1:=tb_ hb hb1;have HO3:=hd_ (own_below hO3 hb1);have HL3:=hd_ hl3;clear hb1 hO3 hl3;go_wp2_with (first|(refine wpList_index rfl 41 (.tmp 9) (.tmp 10) rfl _ _ _ rr rr HX.out ?_)|(at_builtin;refine append_rg rfl (.tmp 14) (.tmp 16) 31 rfl w1.heap.size 5 1 1 et31 (.slice A3 m c3) m (ints .u8 l3) rfl HO3.out (some ⟨wr.heap.size,0,none⟩) 1 1 (ints .u8 [1]) rfl (rg_one wr 1) ints_one o_ (by unfold maxLen;omega) Hb1.out.size ?_;intro A4 c4 w4 hown4 hgrow hb4 hat));have HO4:Hid (OwnB w4 w1.heap.size (.slice A4 (m+1) c4) (m+1)):=OwnB.app HL3.out rfl hown4;have Hb4:=hd_ (Hb1.out.trans hb4);clear hown4 hgrow hb4 hat;go_wp2_with fail;exact⟨⟨i+1,m+1,A4,c4,by go_num,rfl,by omega,by have:=HM.out;omega,HO4,Hb4⟩,by simp[intOf];omega⟩
  · (have hm:m=8:=by have:=HM.out;omega);subst hm;clear HM hm8;have HC5:=hd_ (HC.out.below hb.out HC.out.lt);go_wp2_with (refine wpList_load_mid rfl 40 (.tmp 19) rr w.heap.size 1 rr (ints .i64 t) _ (vw_trange HV.out HC5.out) underlying40 rfl (hi40 HV.out.tree).out ?_);refine(tHash_any t wr HV.out.tree).mono ?_;rintro _ w6 ⟨⟨lh,hlh,rfl⟩,hb6⟩;have HC6:=hd_ (HC5.out.below hb6 HC5.out.lt);have Hb6:=tb_ hb hb6;have HO6:=hd_ (hO.out.below hb6);have HLh:=hd_ hlh;clear hb6 hlh
    go_wp2_with (refine store_blk rfl 43 (.tmp 7) (.tmp 21) rr w6.heap.size .u8 lh rr rr (Row.new zl _ rfl rfl) HLh.out (by show _=_;rw[HLh.out];exact info43) ?_
                 intro w7 hB7 hg7
                 have HH7:=hd_ hB7
                 have hb7:Bl w6 w7:=b0_.grown hg7 s_ (fun k hk=>by cases hk;omega)
                 have HC7:=hd_ (HC6.out.below hb7 HC6.out.lt)
                 have HO7:=hd_ (HO6.out.below hb7)
                 have Hb7:=tb_ Hb6 hb7
                 clear hB7 hg7 hb7)
    refine pr_ 0 13 (bt 13 0) fun w1d hw1d=>?_;refine mG ?_;obtain⟨w8,hw8⟩:=ex_ (w1d);(have HC8:Hid (Cel w8 w.heap.size 45 (vw e t ad k ch)):=by rw[hw8,<- hw1d];exact HC7.out);(have Hb8:Hid (Bl w1 w8):=by rw[hw8,<- hw1d];exact Hb7.out.drew);(have HH8:Hid (Blk w8 w6.heap.size .u8 43 lh):=by rw[hw8,<- hw1d];exact HH7.out);(have HO8:Hid (OwnB w8 w1.heap.size (.slice A3 8 c3) 8):=by rw[hw8,<- hw1d];exact HO7.out.drew);(have hH:w1d.cell? ⟨w.heap.size,0,none⟩=some (.int .i64 e)/\w1d.cell? ⟨w.heap.size,40,none⟩=some (.int .i64 k)/\Hid (Bl w8 w1d):=by rw[<-hw8];exact⟨HC8.out.cell 0,(HC8.out.cell 40).trans (vw_k HV.out),Below.refl _ _⟩);clear hw1d hw8;refine wpAny_of_last (S:=fun w'=>w'.cell? ⟨w.heap.size,0,none⟩=some (.int .i64 e)/\w'.cell? ⟨w.heap.size,40,none⟩=some (.int .i64 k)/\Hid (Bl w8 w')) (ds:=[11,12]) _ _ _ _ ?_;refine ts_ 0 4 9 (bt 13 15) hH ?_;refine mD ?_;(repeat (first|(refine tk_ 43 (.tmp 22) w.heap.size 41 (ints .u8 ch) (fun _ h=>vw_crange HV.out (HC8.out.below h.2.2.out HC8.out.lt)) underlying43 rfl HIc.out ?_)|(refine uA ?_)|(refine mB3 ?_)));refine takes_nil ?_;refine ts_ 5 2 7 (bt 13 111) hH ?_;refine mD ?_;(repeat (first|(refine tk_ 43 (.tmp 22) w.heap.size 41 (ints .u8 ch) (fun _ h=>vw_crange HV.out (HC8.out.below h.2.2.out HC8.out.lt)) underlying43 rfl HIc.out ?_)|(refine uA ?_)|(refine mB3 ?_)));refine takes_nil ?_;refine ts_ 8 2 5 (bt 13 879) hH ?_;refine mD ?_;(repeat (first|(refine tk_ 43 (.tmp 22) w.heap.size 41 (ints .u8 ch) (fun _ h=>vw_crange HV.out (HC8.out.below h.2.2.out HC8.out.lt)) underlying43 rfl HIc.out ?_)|(refine uA ?_)|(refine mB3 ?_)));refine takes_nil ?_;refine one_ (i:=4) (N:=some 26) (bt 13 895) rfl rfl kk dd (fun K hK=>?_);refine goes_ func38 kk rfl #[.int .i64 e] rr rfl rfl mL ?_;refine(num_any e _).mono ?_;rintro _ w4 ⟨⟨A4,c4,l4,rfl,ho4,hl4⟩,hb4⟩;refine⟨_,rfl,?_⟩;have HR4:Hid (Rd w4 .u8 A4 8 c4 l4):=rd_own ho4 hl4;have hs4:w8.heap.size<=w4.heap.size:=Nat.le_trans hH.2.2.out.size hb4.size;refine hK.out _ _ ⟨(hb4.cell (Nat.lt_of_lt_of_le HC8.out.lt hH.2.2.out.size)).trans hH.1,(hb4.cell (Nat.lt_of_lt_of_le HC8.out.lt hH.2.2.out.size)).trans hH.2.1,hH.2.2.out.trans (hb4.mono hH.2.2.out.size)⟩ (fun hH=>?_);clear hK K ho4 hl4 hb4;refine mN ?_;refine one_ (i:=7) (N:=some 29) (bt 13 1023) rfl rfl kk dd (fun K hK=>?_);refine goes_ func38 kk rfl #[.int .i64 k] rr rfl rfl mL ?_;refine(num_any k _).mono ?_;rintro _ w5 ⟨⟨A5,c5,l5,rfl,ho5,hl5⟩,hb5⟩;refine⟨_,rfl,?_⟩;have HR5:Hid (Rd w5 .u8 A5 8 c5 l5):=rd_own ho5 hl5;have hs5:w8.heap.size<=w5.heap.size:=Nat.le_trans hH.2.2.out.size hb5.size;refine hK.out _ _ ⟨(hb5.cell (Nat.lt_of_lt_of_le HC8.out.lt hH.2.2.out.size)).trans hH.1,(hb5.cell (Nat.lt_of_lt_of_le HC8.out.lt hH.2.2.out.size)).trans hH.2.1,hH.2.2.out.trans (hb5.mono hH.2.2.out.size)⟩ (fun hH=>?_);have HR45:=hd_ (HR4.out.below hb5);clear hK K ho5 hl5 hb5;refine mN ?_;refine one_ (i:=10) (N:=some 32) (bt 13 2047) rfl rfl kk dd (fun K hK=>?_);refine value_ rr rfl (v:=.slice (some ⟨w5.heap.size,0,none⟩) 4 4) (w1:=w5.alloc (.cells #[.slice A4 8 c4,.slice A5 8 c5,.slice A3 8 c3,.slice (some ⟨w6.heap.size,0,none⟩) 32 32] 31)) (by go_simp) ?_;have hbB:Bl w5 (w5.alloc (.cells #[.slice A4 8 c4,.slice A5 8 c5,.slice A3 8 c3,.slice (some ⟨w6.heap.size,0,none⟩) 32 32] 31)):=b0_;have HbC:=hH.2.2;refine hK.out _ _ ⟨(hbB.cell (Nat.lt_of_lt_of_le HC8.out.lt hH.2.2.out.size)).trans hH.1,(hbB.cell (Nat.lt_of_lt_of_le HC8.out.lt hH.2.2.out.size)).trans hH.2.1,hH.2.2.out.trans (hbB.mono hH.2.2.out.size)⟩ (fun hH=>?_);clear hK K hbB;refine mN ?_;refine tl_ 11 ?_;refine mF ?_;have HH9:=hd_ (HH8.out.below HbC.out HH8.out.lt);obtain⟨l8,hl8⟩:=(HO8.out.below HbC.out).rd;have HR8:=hd_ hl8;have Hb9:=hd_ (Hb8.out.trans (HbC.out.mono Hb8.out.size))
    have HRR:Hid (RdR (w5.alloc (.cells #[.slice A4 8 c4,.slice A5 8 c5,.slice A3 8 c3,.slice (some ⟨w6.heap.size,0,none⟩) 32 32] 31)) (some ⟨w5.heap.size,0,none⟩) 4 4 60000 [(A4,8,c4,l4),(A5,8,c5,l5),(A3,8,c3,l8),(some ⟨w6.heap.size,0,none⟩,32,32,lh)]):=rdr_new w5 [(A4,8,c4,l4),(A5,8,c5,l5),(A3,8,c3,l8),(some ⟨w6.heap.size,0,none⟩,32,32,lh)] _ 4 rfl rfl (fun r hr=>by
     simp at hr
     rcases hr with rfl|rfl|rfl|rfl
     · exact⟨HR45.out,by show 8<=_;omega⟩
     · exact⟨HR5.out,by show 8<=_;omega⟩
     · exact⟨HR8.out,by show 8<=_;omega⟩
     · exact⟨rd_blk HH9.out HLh.out,by show 32<=_;omega⟩)
    have HbA:Hid (Bl w1 (w5.alloc (.cells #[.slice A4 8 c4,.slice A5 8 c5,.slice A3 8 c3,.slice (some ⟨w6.heap.size,0,none⟩) 32 32] 31))):=Hb9.out.alloc Hb9.out.size _;clear hl8;go_wp2_with fail;change Calls prog 37 #[.agg (ints .u8 ch).toArray,_,_] _ _;refine(derive_any ch _ _ 4 4 _ _ HV.out.chain dd HRR.out o_).mono ?_;rintro _ wz ⟨⟨lz,hlz,rfl⟩,hbz⟩;have Hbz:=tb_ HbA hbz;have HRz:=HZ.out.below Hbz.out HZ.out.lt;have HLz:=hd_ hlz;have hS:w.heap.size+1<w1.heap.size:=HZ.out.lt;clear hbz hlz;go_wp2_with (refine store_blk rfl 43 (.tmp 2) (.tmp 33) rr (w.heap.size+1) .u8 lz rr rr HRz HLz.out (by show _=_;rw[HLz.out];exact info43) ?_;intro w10 hB10 hg10);have hload:=hB10.loads underlying43 rfl (by show _=_;rw[HLz.out];exact info43);refine bodyPost_ret (v:=.agg (ints .u8 lz).toArray) (by simp[results,results97,asAddr,Act.put,hload]) rfl ⟨⟨lz,HLz.out,rfl⟩,?_⟩;exact(Hb.out.trans (Hbz.out.mono Hb.out.size)).grown hg10 (Nat.le_trans Hb.out.size Hbz.out.size) (fun k hk=>by cases hk;omega)
end Go.Proofs.YtppjnahcnofokaaGreat.T
namespace Go.Proofs.YtppjnahcnofokaaGreat.T
open Go.RowKit Go.Proofs.YtppjnahcnofokaaGreatW.PrintLast
open Go.Proofs.Tryz
variable{k:IntKind}{a:Act}{b i n B base m fuel D B':Nat}{l ch t0:List Int}{w w' w1 w2:World}{t:TypeId}{P:Program}{cs xs vs l3:List Value}{A A':Option Addr}{o oi:Oper}{e s f st fl:Int}{ops:Array Oper}{rest l0:List Oper}{v:Value}{r:Option Nat}{rs rs2:List (Option Addr×Nat×Nat×List Int)}{E:Prop}{ad ai go:List Bool}{N:Act->Prop}{place:Nat->Option (Nat×Nat)}{bad:Bool}{es es':List (Int×List Int)}{T:List TypeId}
def z32:List Int:=List.replicate 32 0
def zb:List Bool:=List.replicate 8 false
def zvw:List Value:=vw 0 z31 zb 0 z32
theorem zvOk:VwOk z31 zb z32:=⟨rfl,rfl,rfl⟩
theorem hiz45:(prog.info? 45).map (·.size)=some zvw.length:=vw_hi zvOk
theorem hiz41:(prog.info? 41).map (·.size)=some (bools zb).length:=info41
theorem zvw_all:zvw.toArray.all (·.oneCell')=true:=all_oneCell_toArray (vw_all _ _ _ _ _)
theorem bools_one(l:List Bool):∀v ∈ bools l,v.oneCell'=true:=by
 intro v hv;simp only[bools,List.mem_map]at hv;obtain⟨x,_,rfl⟩:=hv;rfl
theorem all_bools(l:List Bool):(bools l).toArray.all (·.oneCell')=true:=all_oneCell_toArray (bools_one l)
theorem zb_all:(bools zb).toArray.all (·.oneCell')=true:=all_bools zb
theorem hi41{l:List Bool}(h:l.length=8):(prog.info? 41).map (·.size)=some (bools l).length:=by rw[bools_len,h];exact info41
theorem step_store_cel{K:Act->World->Prop}{Q:Exit->Act->World->Prop}(hgd:o.guard=none)(t:TypeId)(x y:Operand)(ho:o.op=.store t x y)(b off:Nat)(u:TypeId)(l1 l0 l3 vs:List Value)(hx:a.eval x=.pointer (some ⟨b,off,none⟩))(hy:a.eval y=.agg vs.toArray)(hR:Cel w b u (l1++l0++l3))(h1:l1.length=off)(hl:l0.length=vs.length)(hi:(prog.info? t).map (·.size)=some vs.length)(hall:vs.toArray.all (·.oneCell')=true)(h:∀W2,Cel W2 b u (l1++vs++l3)->w.grownBy W2 (some b)->K (a.put o.dst undef) W2):if Region.wanted o (yielded ops a.tmps)=true then Oper.wp prog o a w K Q else E:=by
 subst h1;have hw:Region.wanted o (yielded ops a.tmps)=true:=by simp[Region.wanted,hgd]
 rw[if_pos hw];obtain⟨h1,h2⟩:=setCells_cel vs l1 l0 hR hl;exact wp_store_mid t x y ho b l1.length vs.toArray hx hy (hR.there (by simp[hl])) (by rw[hi];simp) hall (h _ h1 h2)
structure ApS (w w':World):Prop where
 c6:Cel w' (w.heap.size+1) 45 zvw
 c7:Cel w' (w.heap.size+1+1) 41 (bools zb)
 c8:Cel w' (w.heap.size+1+1+1) 41 (bools zb)
 below:Bl w w'
theorem ApS.drew(h:ApS w w'):ApS w w'.drew:=⟨h.c6,h.c7,h.c8,h.below.drew⟩
theorem ApS.gr(h:ApS w w1)(hg:w1.grownBy w2 (some b))(hb:w.heap.size+4<=b):ApS w w2:=
 ⟨h.c6.grown hg s1_,h.c7.grown hg s1_,h.c8.grown hg s1_,h.below.grown hg h.below.size (fun k hk=>by cases hk;omega)⟩
theorem ApS.keep6(h:ApS w w1)(hc:Cel w2 (w.heap.size+1) 45 zvw)(hg:w1.grownBy w2 (some (w.heap.size+1))):ApS w w2:=
 ⟨hc,h.c7.grown hg (by simp;try omega),h.c8.grown hg (by simp;try omega),h.below.grown hg h.below.size (fun k hk=>by cases hk;omega)⟩
theorem ApS.keep7(h:ApS w w1)(hc:Cel w2 (w.heap.size+1+1) 41 (bools zb))(hg:w1.grownBy w2 (some (w.heap.size+1+1))):ApS w w2:=
 ⟨h.c6.grown hg (by simp;try omega),hc,h.c8.grown hg (by simp;try omega),h.below.grown hg h.below.size (fun k hk=>by cases hk;omega)⟩
theorem ApS.keep8(h:ApS w w1)(hc:Cel w2 (w.heap.size+1+1+1) 41 (bools zb))(hg:w1.grownBy w2 (some (w.heap.size+1+1+1))):ApS w w2:=
 ⟨h.c6.grown hg (by simp;try omega),h.c7.grown hg (by simp;try omega),hc,h.below.grown hg h.below.size (fun k hk=>by cases hk;omega)⟩
theorem ApS.bel(h:ApS w w1)(hb:Bl w1 w2):ApS w w2:=
 ⟨h.c6.below hb h.c6.lt,h.c7.below hb h.c7.lt,h.c8.below hb h.c8.lt,h.below.trans (hb.mono h.below.size)⟩
theorem ApS.l6(h:ApS w w'):(loadVar 45 ⟨w.heap.size+1,0,none⟩).run prog w'=.ok (.agg zvw.toArray) w':=run_loadVar_mid (P:=prog) _ _ 0 45 zvw _ h.c6.all underlying45 rfl hiz45
theorem ApS.l7(h:ApS w w'):(loadVar 41 ⟨w.heap.size+1+1,0,none⟩).run prog w'=.ok (.agg (bools zb).toArray) w':=run_loadVar_mid (P:=prog) _ _ 0 41 (bools zb) _ h.c7.all underlying41 rfl hiz41
theorem ApS.l8(h:ApS w w'):(loadVar 41 ⟨w.heap.size+1+1+1,0,none⟩).run prog w'=.ok (.agg (bools zb).toArray) w':=run_loadVar_mid (P:=prog) _ _ 0 41 (bools zb) _ h.c8.all underlying41 rfl hiz41
theorem wpList_build{Q:Exit->Act->World->Prop}(hgd:o.guard=none)(t:TypeId)(ps:Array (Nat×Operand))(ho:o.op=.build t ps)(parts:Array (Nat×Value))(hp:(ps.map fun(i,x)=>(i,a.eval x))=parts)(v:Value)(hrun:(Instr.build t parts).run prog w=.ok v w)(h:wpList prog ops Q rest (a.put o.dst v) w):wpList prog ops Q (o :: rest) a w:=by
 refine wpList_plain hgd fun K hK=>?_;unfold Oper.wp execOp;simp only[ho,hp,Sem.run_bind,hrun,Result.andThen_ok];exact hK _ _ h
theorem fill_fold{off:Nat}:∀(vs l0 l1:List Value) (k:Nat),l0.length=vs.length->l1.length=off+k->(vs.zipIdx k).foldl (fun cs p=>cs.setIfInBounds (off+p.2) p.1) (l1++l0++l3).toArray=(l1++vs++l3).toArray
 | [],l0,l1,k,h,_=>by
  have:l0=[]:=List.length_eq_zero_iff.1 (by simpa using h);subst this;rfl
 | v :: r,[],l1,k,h,_=>by simp at h
 | v :: r,u :: l0,l1,k,h,h1=>by
  rw[List.zipIdx_cons,List.foldl_cons];have e:(l1++u :: l0++l3).toArray.setIfInBounds (off+k) v=((l1 ++ [v])++l0++l3).toArray:=by rw[<-h1];simp
  show(r.zipIdx (k+1)).foldl (fun cs p=>cs.setIfInBounds (off+p.2) p.1) ((l1++u :: l0++l3).toArray.setIfInBounds (off+k) v)=_;rw[e,fill_fold r l0 (l1 ++ [v]) (k+1) (by simpa using h) (by simp[h1];omega)];simp
theorem fill_splice{off size:Nat}{l1 l0:List Value}{rest:List (Nat×Value)}(hp:place i=some (off,size))(hv:v.cells=vs.toArray)(h1:l1.length=off)(h2:vs.length=size)(h0:l0.length=vs.length):Instr.fill place (l1++l0++l3).toArray ((i,v) :: rest)=Instr.fill place (l1++vs++l3).toArray rest:=by
 rw[Instr.fill,hp];have hf:=fill_fold (off:=off) (l3:=l3) vs l0 l1 0 h0 o_;simp only[hv];rw[if_neg s1_];congr 1;rw[<-hf];simp
theorem built224(parts:List (Nat×Value)):prog.built 224 parts=Instr.fill (#[(0,73),(73,1),(74,8),(82,8)][·]?) (chg 0 z31 zb 0 z32 0 zb zb).toArray parts:=by kernel_rfl
theorem run_build224(e k f:Int)(t ch:List Int)(ad:List Bool)(h:VwOk t ad ch)(w:World):(Instr.build 224 #[(0,.agg (vw e t ad k ch).toArray),(1,.int .i64 f)]).run prog w=.ok (.agg (chg e t ad k ch f zb zb).toArray) w:=by
 refine run_build w 224 _ _ ?_;rw[built224];have e1:chg 0 z31 zb 0 z32 0 zb zb=[]++vw 0 z31 zb 0 z32++([.int .i64 0]++(bools zb++bools zb)):=rfl;rw[e1,fill_splice (vs:=vw e t ad k ch) (off:=0) (size:=73) rfl rfl rfl (vw_len h) (by rw[vw_len h,vw_len zvOk])];have e2:([]:List Value)++vw e t ad k ch++([.int .i64 0]++(bools zb++bools zb))=vw e t ad k ch ++ [.int .i64 0]++(bools zb++bools zb):=by simp
 rw[e2,fill_splice (l1:=vw e t ad k ch) (l0:=[.int .i64 0]) (vs:=[.int .i64 f]) (off:=73) (size:=1) rfl rfl (vw_len h) rfl rfl];simp[Instr.fill,chg]
theorem Cel.vload{k:Int}{t:List Int}(h:Cel w b 45 (vw e t ad k ch))(hv:VwOk t ad ch):(loadVar 45 ⟨b,0,none⟩).run prog w=.ok (.agg (vw e t ad k ch).toArray) w:=vw_load hv h
theorem Cel.bload{l:List Bool}(h:Cel w b 41 (bools l))(hl:l.length=8):(loadVar 41 ⟨b,0,none⟩).run prog w=.ok (.agg (bools l).toArray) w:=run_loadVar_mid (P:=prog) _ _ 0 41 (bools l) _ h.all underlying41 rfl (hi41 hl)
theorem chg_airange{g:Nat}{k:Int}{t:List Int}(h:Cel w g 224 (chg e t ad k ch f ai go))(ho:ChOk t ad ch ai go):w.rangeAt g 74 (bools ai):=by
 have:=Cel.range (l1:=vw e t ad k ch ++ [.int .i64 f]) (l2:=bools ai) (l3:=bools go) (by simpa[chg] using h);have e1:(vw e t ad k ch ++ [Value.int .i64 f]).length=74:=by rw[List.length_append,vw_len ho.vw];rfl
 rw[e1]at this;exact this
theorem chg_gorange{g:Nat}{k:Int}{t:List Int}(h:Cel w g 224 (chg e t ad k ch f ai go))(ho:ChOk t ad ch ai go):w.rangeAt g 82 (bools go):=by
 have:=Cel.range (l1:=vw e t ad k ch++([.int .i64 f]++bools ai)) (l2:=bools go) (l3:=[]) (by simpa[chg] using h);have e1:(vw e t ad k ch++([Value.int .i64 f]++bools ai)).length=82:=by rw[List.length_append,vw_len ho.vw,List.length_append,bools_len,ho.ai];rfl
 rw[e1]at this;exact this
structure Ap16 (w w':World):Prop where
 c6:∃v,v.length=73/\Cel w' (w.heap.size+1) 45 v
 c7:∃v,v.length=8/\Cel w' (w.heap.size+1+1) 41 v
 c8:∃v,v.length=8/\Cel w' (w.heap.size+1+1+1) 41 v
 below:Bl w w'
theorem ApS.ap16(h:ApS w w'):Ap16 w w'.drew:=⟨⟨_,vw_len zvOk,h.c6⟩,⟨_,rfl,h.c7⟩,⟨_,rfl,h.c8⟩,h.below.drew⟩
theorem cel_ex{b':Nat}(h:∃v,v.length=n/\Cel w b t v)(hg:w.grownBy w' (some b'))(hne:b≠b'):∃v,v.length=n/\Cel w' b t v:=by
 obtain⟨v,h1,h2⟩:=h;exact⟨v,h1,h2.grown hg (by simpa using hne)⟩
theorem Ap16.gr6(h:Ap16 w w1)(hg:w1.grownBy w2 (some (w.heap.size+1)))(hc:∃v,v.length=73/\Cel w2 (w.heap.size+1) 45 v):Ap16 w w2:=
 ⟨hc,cel_ex h.c7 hg o_,cel_ex h.c8 hg o_,h.below.grown hg h.below.size (fun k hk=>by cases hk;omega)⟩
theorem Ap16.gr7(h:Ap16 w w1)(hg:w1.grownBy w2 (some (w.heap.size+1+1)))(hc:∃v,v.length=8/\Cel w2 (w.heap.size+1+1) 41 v):Ap16 w w2:=
 ⟨cel_ex h.c6 hg o_,hc,cel_ex h.c8 hg o_,h.below.grown hg h.below.size (fun k hk=>by cases hk;omega)⟩
theorem Ap16.gr8(h:Ap16 w w1)(hg:w1.grownBy w2 (some (w.heap.size+1+1+1)))(hc:∃v,v.length=8/\Cel w2 (w.heap.size+1+1+1) 41 v):Ap16 w w2:=
 ⟨cel_ex h.c6 hg o_,cel_ex h.c7 hg o_,hc,h.below.grown hg h.below.size (fun k hk=>by cases hk;omega)⟩
def ApR(e:Int)(ch:List Int)(f:Int)(n:Nat)(r:Ending):Prop:=∃x e2 t2 ad2 k2 ch2 ai go,r=.returned (.tuple #[.agg (vw e2 t2 ad2 k2 ch2).toArray,.agg (bools ai).toArray,.agg (bools go).toArray,.int .i64 x])/\VwOk t2 ad2 ch2/\ai.length=8/\go.length=8/\(x=0->e2=e/\ch2=ch/\n<=4/\0<=f/\f<8)
end Go.Proofs.YtppjnahcnofokaaGreat.T
namespace Go.Proofs.YtppjnahcnofokaaGreat.T
open Go.RowKit Go.Proofs.YtppjnahcnofokaaGreatW.PrintLast
open Go.Proofs.Tryz
variable{k:IntKind}{a:Act}{b i n B base m fuel D B':Nat}{l ch t0:List Int}{w w' w1 w2:World}{t:TypeId}{P:Program}{cs xs vs l3:List Value}{A A':Option Addr}{o oi:Oper}{e s f st fl:Int}{ops:Array Oper}{rest l0:List Oper}{v:Value}{r:Option Nat}{rs rs2:List (Option Addr×Nat×Nat×List Int)}{E:Prop}{ad ai go:List Bool}{N:Act->Prop}{place:Nat->Option (Nat×Nat)}{bad:Bool}{es es':List (Int×List Int)}{T:List TypeId}
def NodesO(w:World)(b i:Nat):Prop:=∃l:List Int,l.length=3/\Blk w b .i64 128 l/\(∀x ∈ l,0<=x/\x<15)/\∀j,j<i->∀x,l[j]? = some x->x % 2=1
theorem NodesO.row(h:NodesO w b i):Row w b .i64 128 3:=by obtain⟨l,h1,h2,_⟩:=h;exact⟨l,h1,h2⟩
theorem NodesO.set(h:NodesO w b i)(hi:i<3)(x:Int)(hx:0<=x/\x<15)(ho:x % 2=1):NodesO (w.setCell ⟨b,i,none⟩ (.int .i64 x)) b (i+1):=by
 obtain⟨l,h1,h2,h3,h4⟩:=h;refine⟨_,by rw[List.length_set];exact h1,h2.set i x,fun y hy=>?_,fun j hj y hy=>?_⟩
 · (rcases List.mem_or_eq_of_mem_set hy with h|h);(· exact h3 y h);rw[h];exact hx
 by_cases e:j=i
 · subst e;rw[List.getElem?_set_self o_]at hy;cases hy;exact ho
 rw[List.getElem?_set_ne (fun h=>e h.symm)]at hy;exact h4 j o_ y hy
theorem NodesO.new(w:World)(b:Nat)(hb:w.heap.size=b):NodesO (w.alloc (.cells #[.int .i64 0,.int .i64 0,.int .i64 0] 128)) b 0:=
 ⟨[0,0,0],rfl,blk_new w .i64 128 [0,0,0] b hb,fun x hx=>by simp at hx;omega,fun _ h=>by omega⟩
theorem abv_odd(l k:Nat)(hl:l<8)(hk:k<=2):(2*(l / 2 ^ (k+1)*2 ^ (k+1))+2 ^ (k+1)-1) % 2=1:=by
 have e2:k=0\/k=1\/k=2:=by omega
 rcases e2 with rfl|rfl|rfl<;>simp<;>omega
def IsO3(r:Ending):Prop:=∃a b c:Int,(0<=a/\a<15/\a % 2=1)/\(0<=b/\b<15/\b % 2=1)/\(0<=c/\c<15/\c % 2=1)/\r=.returned (.agg #[.int .i64 a,.int .i64 b,.int .i64 c])
theorem path_f(n:Int)(w:World)(hn8:0<=n/\n<8):Calls prog 160 #[.int .i64 n] w fun r w'=>IsO3 r/\Bl w w':=by
 obtain⟨q,hq⟩:∃q,decide (0<=n/\n<8)=q:=⟨_,rfl⟩;have hqt:q=true:=by rw[<-hq];simpa using hn8
 have HQ:=hd_ hq;clear hq;go_enter func160,ntmps160
 go_wp2_with fail;go_loopw [5] (fun v wr=>∃i:Nat,v=.int .i64 i/\i<=3/\Hid (NodesO wr (w.heap.size+1) i)/\Hid (Row wr w.heap.size .i64 128 3)/\Hid (Bl w wr)) (fun v _=>3-(intOf v).toNat)
 case atStart=>exact⟨0,rfl,by omega,NodesO.new _ _ s_,(Row.new [_,_,_] _ rfl rfl).alloc _,bal b0_⟩
 case round=>
  obtain⟨i,rfl,hi,hN,hR,hb⟩:=hrel;by_cases hlt:i<3
  · go_wp2_with fail;refine(isLeaf_any _ _).mono ?_;rintro _ w2 ⟨rfl,rfl⟩;rw[HQ.out]
    cases q with
    | false=>cases hqt
    | true=>
     (have hn:0<=n/\n<8:=by simpa using HQ.out);obtain⟨m,rfl⟩:=Int.eq_ofNat_of_zero_le hn.1;(have hm:m<8:=by omega);obtain⟨y,hy⟩:=hN.out.row.at i hlt;have fy:=hN.out.row.free i;go_wp2_with fail;refine(above_any m (i+1) _ hm o_).mono ?_;rintro _ w2 ⟨rfl,rfl⟩;have hr:=abv_rng m (i+1) hm o_;have ho:=abv_odd m i hm o_;generalize 2*(m / 2 ^ (i+1)*2 ^ (i+1))+2 ^ (i+1)-1=z at hr ho ⊢;go_wp2_with fail;exact⟨⟨i+1,by go_num,by omega,hN.out.set hlt _ ⟨by omega,by omega⟩ o_,hR.out.other o_ _ _,hb.out.setCell (Nat.le_succ _) _⟩,by simp[intOf];omega⟩
  obtain⟨l,hl,hB,hP,hO⟩:=hN.out;obtain rfl:i=3:=by omega
  obtain⟨a,b,c,rfl⟩:∃a b c,l=[a,b,c]:=by
   match l,hl with
   | [a,b,c],_=>exact⟨a,b,c,rfl⟩
  have c0:=hB.cell (i:=0) rfl;have c1:=hB.cell (i:=1) rfl;have c2:=hB.cell (i:=2) rfl;obtain⟨y0,d0⟩:=hR.out.at 0 o_;obtain⟨y1,d1⟩:=hR.out.at 1 o_;obtain⟨y2,d2⟩:=hR.out.at 2 o_;have f0:=hR.out.free 0;have f1:=hR.out.free 1;have f2:=hR.out.free 2;have HP:Hid ((0<=a/\a<15/\a % 2=1)/\(0<=b/\b<15/\b % 2=1)/\(0<=c/\c<15/\c % 2=1)):=⟨⟨(hP a s_).1,(hP a s_).2,hO 0 o_ a rfl⟩,⟨(hP b s_).1,(hP b s_).2,hO 1 o_ b rfl⟩,⟨(hP c s_).1,(hP c s_).2,hO 2 o_ c rfl⟩⟩;clear hB hl hP hO;go_wp2_with fail;generalize hW:World.setCell _ _ _=W2;have hBw:Blk W2 w.heap.size .i64 128 [a,b,c]:=by
   obtain⟨l,hl,hB⟩:=hR.out;obtain⟨a',b',c',rfl⟩:∃a b c,l=[a,b,c]:=by
    match l,hl with
    | [a,b,c],_=>exact⟨a,b,c,rfl⟩
   rw[<-hW];exact((hB.set 0 a).set 1 b).set 2 c
  have HB2:Hid (Bl w W2):=by rw[<-hW];exact((hb.out.setCell (Nat.le_refl _) _).setCell (Nat.le_refl _) _).setCell (Nat.le_refl _) _
  clear hW c0 c1 c2 d0 d1 d2 f0 f1 f2;have hload:=hBw.loads underlying128 rfl info128;refine bodyPost_ret (v:=.agg #[.int .i64 a,.int .i64 b,.int .i64 c]) (by simp[results,results160,asAddr,Act.put,hload,ints]) rfl ⟨⟨a,b,c,HP.out.1,HP.out.2.1,HP.out.2.2,rfl⟩,HB2.out⟩
structure PutOk (t:List Int) (m:Nat) (a b:Int) (l:List Int):Prop where
 len:l.length=31
 s:l.getD (m*2) 0=a
 e:l.getD (m*2+1) 0=b
 oth:∀j,j<16->j≠m*2->j≠m*2+1->l.getD j 0=t.getD j 0
 nod:∀j,16<=j->l.getD j 0=t.getD j 0\/l.getD j 0=0
theorem getD_set_self{x:Int}(h:i<l.length):(l.set i x).getD i 0=x:=by
 rw[List.getD_eq_getElem?_getD,List.getElem?_set_self h];rfl
theorem getD_set_ne{j:Nat}{x:Int}(h:i≠j):(l.set i x).getD j 0=l.getD j 0:=by
 rw[List.getD_eq_getElem?_getD,List.getElem?_set_ne h,<- List.getD_eq_getElem?_getD]
theorem PutOk.first{t:List Int}(ht:t.length=31)(m:Nat)(hm:m<8)(a b:Int):PutOk t m a b ((t.set (m*2) a).set (m*2+1) b):=by
 refine⟨by simp[ht],?_,?_,fun j h1 h2 h3=>?_,fun j hj=>.inl ?_⟩
 · rw[getD_set_ne o_,getD_set_self o_]
 · rw[getD_set_self (by simp[ht];omega)]
 · rw[getD_set_ne o_,getD_set_ne o_]
 rw[getD_set_ne o_,getD_set_ne o_]
theorem PutOk.zero{t:List Int}{a b:Int}(h:PutOk t m a b l)(hm:m<8)(j:Nat)(hj:16<=j)(hj2:j<31):PutOk t m a b (l.set j 0):=by
 obtain⟨h1,h2,h3,h4,h5⟩:=h;refine⟨by simp[h1],?_,?_,fun i h6 h7 h8=>?_,fun i hi=>?_⟩
 · rw[getD_set_ne o_];exact h2
 · rw[getD_set_ne o_];exact h3
 · rw[getD_set_ne o_];exact h4 i h6 h7 h8
 by_cases e:j=i
 · subst e;exact .inr (getD_set_self o_)
 rw[getD_set_ne e];exact h5 i hi
def PutW(t:List Int)(m:Nat)(a b:Int)(w:World)(g:Nat):Prop:=∃l,Blk w g .i64 40 l/\PutOk t m a b l
theorem PutW.row{t:List Int}{g:Nat}{a b:Int}(h:PutW t m a b w g):Row w g .i64 40 31:=by obtain⟨l,h1,h2⟩:=h;exact⟨l,h2.len,h1⟩
theorem PutW.zero{t:List Int}{g:Nat}{a b:Int}(h:PutW t m a b w g)(hm:m<8)(j:Nat)(hj:j<15):PutW t m a b (w.setCell ⟨g,16+j,none⟩ (.int .i64 0)) g:=by
 obtain⟨l,h1,h2⟩:=h;exact⟨_,h1.set _ _,h2.zero hm _ o_ o_⟩
theorem PutW.below{t:List Int}{g:Nat}{a b:Int}(h:PutW t m a b w g)(hb:Below B w w')(hg:g<B):PutW t m a b w' g:=by
 obtain⟨l,h1,h2⟩:=h;exact⟨l,h1.below hb hg,h2⟩
theorem PutW.lt{t:List Int}{g:Nat}{a b:Int}(h:PutW t m a b w g):g<w.heap.size:=h.row.lt
theorem put_f(t:List Int)(m:Nat)(a b:Int)(w:World)(ht:t.length=31)(hm:m<8):Calls prog 213 #[.agg (ints .i64 t).toArray,.int .i64 m,.agg #[.int .i64 a,.int .i64 b]] w fun r w'=>(∃l,PutOk t m a b l/\r=.returned (.agg (ints .i64 l).toArray))/\Bl w w':=by
 obtain⟨W1,hW⟩:=ex_ (((w.alloc (.cells (ints .i64 t).toArray 40)).alloc (.cells #[.int .i64 a,.int .i64 b] 36)).alloc (.cells (ints .i64 z31).toArray 40));have HT:Hid (Blk W1 w.heap.size .i64 40 t):=by rw[hW];exact(blk_new _ .i64 40 t _ rfl).below (bal b0_) s_
 have HTL:=hd_ ht;have HX:Hid (Blk W1 (w.heap.size+1) .i64 36 [a,b]):=by rw[hW];exact(blk_new _ .i64 36 [a,b] _ s_).below b0_ s_
 have HZ:Hid (Row W1 (w.heap.size+1+1) .i64 40 31):=by rw[hW];exact Row.new z31 _ rfl s_
 have Hb:Hid (Bl w W1):=by rw[hW];exact bal (bal b0_)
 have HW:=hd_ hW;have HIz:=hi40 (l:=z31) rfl;have HIa:=hi40a (l:=z31) rfl;obtain⟨q,hq⟩:∃q,decide (0<=(m:Int)/\(m:Int)<8)=q:=⟨_,rfl⟩;have hqt:q=true:=by rw[<-hq];simp;omega
 have HQ:=hd_ hq;clear hq hW
 cases q with
 | false=>cases hqt
 | true=>
  have hx0:=HX.out.cell (i:=0) rfl
  have hx1:=HX.out.cell (i:=1) rfl
  have hrow:Row W1 w.heap.size .i64 40 31:=⟨t,ht,HT.out⟩
  obtain⟨y0,hy0⟩:=(hrow:Row W1 w.heap.size .i64 40 31).at (m*2) o_
  obtain⟨y1,hy1⟩:=hrow.at (m*2+1) o_
  have fy0:=HT.out.free (m*2)
  have fy1:=HT.out.free (m*2+1)
  go_enter func213,ntmps213
  go_wp2_with fail
  change Calls prog 196 _ (((w.alloc (.cells (ints .i64 t).toArray 40)).alloc (.cells #[.int .i64 a,.int .i64 b] 36)).alloc (.cells (ints .i64 z31).toArray 40)) _
  rw[<-HW.out]
  refine(isLeaf_any _ _).mono ?_
  rintro _ w2 ⟨rfl,rfl⟩
  rw[HQ.out]
  go_wp2_with fail
  generalize hW2:World.setCell _ _ _=W2
  have HT2:Hid (PutW t m a b W2 w.heap.size):=by rw[<-hW2];exact⟨_,(HT.out.set _ _).set _ _,.first HTL.out m hm a b⟩
  have HZ2:Hid (Row W2 (w.heap.size+1+1) .i64 40 31):=by rw[<-hW2];exact(HZ.out.other o_ _ _).other o_ _ _
  have Hb2:Hid (Bl w W2):=by rw[<-hW2];exact(Hb.out.setCell (Nat.le_refl _) _).setCell (Nat.le_refl _) _
  clear hW2 hrow ht hy0 hy1 fy0 fy1 hx0 hx1 HT HX HZ Hb
  refine(path_f _ _ ⟨by omega,by omega⟩).mono ?_
  rintro _ w3 ⟨⟨p0,p1,p2,h0,h1,h2,rfl⟩,hb3⟩
  obtain⟨n0,rfl⟩:=Int.eq_ofNat_of_zero_le h0.1
  obtain⟨n1,rfl⟩:=Int.eq_ofNat_of_zero_le h1.1
  obtain⟨n2,rfl⟩:=Int.eq_ofNat_of_zero_le h2.1
  have g0:n0<15:=by omega
  have g1:n1<15:=by omega
  have g2:n2<15:=by omega
  have HT3:=hd_ (HT2.out.below hb3 HT2.out.lt)
  have HZ3:=hd_ (HZ2.out.below hb3 HZ2.out.lt)
  have Hb3:=tb_ Hb2 hb3
  clear hb3 HT2 HZ2 Hb2 h0 h1 h2
  go_wp2_with fail
  go_loopw [19] (fun v wr=>∃i:Int,v=.int .i64 i/\0<=i/\i<=3/\Hid (PutW t m a b wr w.heap.size)/\Hid (Row wr (w.heap.size+1+1) .i64 40 31)/\Hid (Bl w wr)) (fun v _=>(3-intOf v).toNat)
  case atStart=>exact⟨0,rfl,by omega,by omega,HT3.out,HZ3.out,Hb3.out⟩
  case round=>
   clear HT3 HZ3 Hb3
   obtain⟨i,rfl,hi0,hi3,hT,hZ,hb⟩:=hrel
   by_cases hlt:i<3
   · have hcell:=hT.out.row.at;have hfree:=hT.out.row.free;(have e:i=0\/i=1\/i=2:=by omega);(rcases e with rfl|rfl|rfl);(case' inl=>obtain⟨y,hy⟩:=hcell (16+n0) o_;have fy:=hfree (16+n0);have hix:=hd_ (idx128 (.int .i64 n0) (.int .i64 n1) (.int .i64 n2) _ 0 rfl));(case' inr.inl=>obtain⟨y,hy⟩:=hcell (16+n1) o_;have fy:=hfree (16+n1);have hix:=hd_ (idx128 (.int .i64 n0) (.int .i64 n1) (.int .i64 n2) _ 1 rfl));(case' inr.inr=>obtain⟨y,hy⟩:=hcell (16+n2) o_;have fy:=hfree (16+n2);have hix:=hd_ (idx128 (.int .i64 n0) (.int .i64 n1) (.int .i64 n2) _ 2 rfl))
     all_goals
      clear hcell hfree hlt hi0 hi3
      go_wp2_with (refine wpList_index rfl 128 (.tmp 18) (.tmp 19) rfl _ _ _ rr rr (hix.out _) ?_)
      exact⟨⟨_,rfl,by omega,by omega,hT.out.zero hm _ o_,hZ.out.other o_ _ _,hb.out.setCell (Nat.le_refl _) _⟩,by simp[intOf]⟩
   · (have hie:i=3:=by omega);subst hie;obtain⟨l,hBl,hpo⟩:=hT.out;have hl:=hpo.len;have HPO:=hd_ hpo;have HTh:Hid (wr.there (w.heap.size+1+1) 0 (ints .i64 l).toArray.size):=row_there hZ.out (by rw[List.size_toArray,ints_len,hl]);have HI1:=hi40 hl;have HI2:=hi40a hl;have HL:=hd_ hl;have HBl:=hd_ hBl;have hall:=all_ints .i64 l;clear hlt hi0 hi3 hl hBl hpo
     go_wp2_with (first
      | (refine wpList_load_mid rfl 40 (.tmp 3) rr w.heap.size 0 rr (ints .i64 l) _ HBl.out.range underlying40 rfl HI1.out ?_)
      | (refine wpList_store_mid rfl 40 (.tmp 6) (.tmp 26) rr (w.heap.size+1+1) 0 (ints .i64 l).toArray rr rr HTh.out HI2.out hall ?_))
     have hload:=run_loadVar_mid (P:=prog) _ (w.heap.size+1+1) 0 40 (ints .i64 l) _ (World.rangeAt_setCells_same wr _ 0 (ints .i64 l) (by simpa using HTh.out)) underlying40 rfl HI1.out;refine bodyPost_ret (v:=.agg (ints .i64 l).toArray) (by simp[results,results213,asAddr,Act.put,hload]) rfl ⟨⟨l,HPO.out,rfl⟩,?_⟩;exact below_setCells hb.out o_ _ _
structure TreeOk (t:List Int):Prop where
 len:t.length=31
 leaf:∀i,i<8->keyB (t.getD (i*2) 0)=true/\keyB (t.getD (i*2+1) 0)=true/\(t.getD (i*2) 0=0↔t.getD (i*2+1) 0=0)
 node:∀i,i<15->keyB (t.getD (16+i) 0)=true/\(i % 2=0->t.getD (16+i) 0=0)
theorem getD_take{t:List Int}(h:i<n):(t.take n).getD i 0=t.getD i 0:=by
 rw[List.getD_eq_getElem?_getD,List.getElem?_take,if_pos h,<- List.getD_eq_getElem?_getD]
theorem getD_drop{t:List Int}:(t.drop n).getD i 0=t.getD (n+i) 0:=by
 rw[List.getD_eq_getElem?_getD,List.getElem?_drop,<- List.getD_eq_getElem?_getD]
theorem getD_of{x:Int}(h:l[i]? = some x):l.getD i 0=x:=by rw[List.getD_eq_getElem?_getD,h];rfl
def LfO(l:List Int)(i:Nat):Prop:=keyB (l.getD (i*2) 0)=true/\keyB (l.getD (i*2+1) 0)=true/\(l.getD (i*2) 0=0↔l.getD (i*2+1) 0=0)
def NdO(l:List Int)(i:Nat):Prop:=keyB (l.getD i 0)=true/\(i % 2=0->l.getD i 0=0)
theorem all_succ{p:Nat->Prop}(h:∀j,j<i->p j)(hi:p i):∀j,j<i+1->p j:=fun j hj=>by
 by_cases e:j=i
 · rw[e];exact hi
 · exact h j o_
theorem tIs_f(t:List Int)(w:World)(ht:t.length=31):Calls prog 189 #[.agg (ints .i64 t).toArray] w fun r w'=>(∃b,r=.returned (.bool b)/\(b=true->TreeOk t))/\Bl w w':=by
 obtain⟨w1,hW⟩:=ex_ (w.alloc (.cells (ints .i64 t).toArray 40));have HB:Hid (Blk w1 w.heap.size .i64 40 t):=by rw[hW];exact blk40 w t
 have Hb:Hid (Bl w w1):=by rw[hW];exact b0_
 obtain⟨l,hl⟩:=ex_ (t.take 16);obtain⟨m,hm⟩:=ex_ (t.drop 16);have HL:Hid (l.length=16):=by show _=_;rw[hl,List.length_take];omega
 have HM:Hid (m.length=15):=by show _=_;rw[hm,List.length_drop];omega
 have HRl:Hid (∀w',Bl w1 w'->w'.rangeAt w.heap.size 0 (ints .i64 l)):=fun w' h=>by rw[hl];exact range_take (HB.out.below h HB.out.lt).range 16
 have HRm:Hid (∀w',Bl w1 w'->w'.rangeAt w.heap.size 16 (ints .i64 m)):=fun w' h=>by rw[hm];exact range_drop (HB.out.below h HB.out.lt).range 16
 have HIl:Hid ((prog.info? 37).map (·.size)=some (ints .i64 l).length):=by show _=_;rw[ints_len,HL.out];exact info37
 have HIm:Hid ((prog.info? 38).map (·.size)=some (ints .i64 m).length):=by show _=_;rw[ints_len,HM.out];exact info38
 have HTK:Hid ((∀j,j<8->LfO l j)->(∀j,j<15->NdO m j)->TreeOk t):=fun h1 h2=>⟨ht,fun i hi=>by have:=h1 i hi;rw[hl]at this;unfold LfO at this;rwa [getD_take o_,getD_take o_]at this,fun i hi=>by have:=h2 i hi;rw[hm]at this;unfold NdO at this;rwa [getD_drop]at this⟩;have HW:=hd_ hW;clear hW hl hm;go_enter func189,ntmps189
 go_wp2_with ((change wpList _ _ _ _ _ (w.alloc (.cells (ints .i64 t).toArray 40)));rw[<-HW.out];refine wpList_load_mid rfl 37 (.tmp 7) rr w.heap.size 0 rr (ints .i64 l) _ (HRl.out _ (Below.refl _ _)) underlying37 rfl HIl.out ?_);go_loopw [9] (fun v wr=>∃i:Nat,v=.int .i64 i/\i<=8/\Hid (∀j,j<i->LfO l j)/\Hid (Bl w1 wr)) (fun v _=>8-(intOf v).toNat)
 case atStart=>exact⟨0,rfl,by omega,hd_ (fun _ h=>by omega),Below.refl _ _⟩
 case round=>
  obtain⟨i,rfl,hi,HJ,hb⟩:=hrel;by_cases hlt:i<8
  · obtain⟨x,y,hx0,hy0,hix⟩:=idx37 l HL.out i hlt wr;have HX0:=hd_ (getD_of hx0);have HY0:=hd_ (getD_of hy0);clear hx0 hy0;have HIX:=hd_ hix;clear hix;go_wp2_with (refine wpList_index rfl 37 (.tmp 8) (.tmp 9) rfl _ _ _ rr rr HIX.out ?_);have hb4:=(hb.out.alloc hb.out.size (.cells #[.int .i64 x,.int .i64 y] 36));have Hb5:=hd_ hb4;have Hb4:=tb_ Hb hb4;clear hb4 HIX hb;refine(isKey_any _ _).mono ?_;rintro _ w4 ⟨rfl,rfl⟩
    cases hkx:keyB x with
    | false=>
     go_wp2_with fail;go_ret;exact⟨⟨_,rfl,by simp⟩,Hb4.out⟩
    | true=>
     have HKX:=hd_ hkx;clear hkx;go_wp2_with fail;refine(isKey_any _ _).mono ?_;rintro _ w4 ⟨rfl,rfl⟩
     cases hky:keyB y with
     | false=>
      go_wp2_with fail;go_ret;exact⟨⟨_,rfl,by simp⟩,Hb4.out⟩
     | true=>
      have HKY:=hd_ hky;clear hky;(cases hx:(x==0)<;>cases hy:(y==0));case' false.true=>
       go_wp2_with fail;go_ret;exact⟨⟨_,rfl,by simp⟩,Hb4.out⟩
      case' true.false=>
       go_wp2_with fail;go_ret;exact⟨⟨_,rfl,by simp⟩,Hb4.out⟩
      all_goals
       have HNX:Hid (∀j,j<i+1->LfO l j):=all_succ HJ.out (by unfold LfO;rw[HX0.out,HY0.out];exact⟨HKX.out,HKY.out,by simp at hx hy;simp[hx,hy]⟩)
       go_wp2_with fail
       go_roundw
       case rel=>exact⟨i+1,by go_num,by omega,HNX,Hb5⟩
       case measure=>simp[intOf];omega
  have HJ8:Hid (∀j,j<8->LfO l j):=by(obtain rfl:i=8:=by omega);exact HJ
  have Hbr:Hid (Bl w wr):=Hb.out.trans (hb.out.mono Hb.out.size);go_wp2_with (refine wpList_load_mid rfl 38 (.tmp 32) rr w.heap.size 16 rr (ints .i64 m) _ (HRm.out _ hb.out) underlying38 rfl HIm.out ?_);go_loopw [34] (fun v w'=>∃j:Nat,v=.int .i64 j/\j<=15/\Hid (∀i,i<j->NdO m i)/\wr=w') (fun v _=>15-(intOf v).toNat)
  case atStart=>exact⟨0,rfl,by omega,hd_ (fun _ h=>by omega),rfl⟩
  case round=>
   obtain⟨j,rfl,hj,HN,rfl⟩:=hrel;by_cases hlj:j<15
   · obtain⟨x,hx0,hix⟩:=idx38 m HM.out j hlj wr;have HX0:=hd_ (getD_of hx0);clear hx0;have HIX:=hd_ hix;clear hix;obtain⟨q,hq⟩:∃q,((j:Int).tmod 2==0)=q:=⟨_,rfl⟩;go_wp2_with (refine wpList_index rfl 38 (.tmp 33) (.tmp 34) rfl _ _ _ rr rr HIX.out ?_);refine(isKey_any _ _).mono ?_;rintro _ w4 ⟨rfl,rfl⟩
     cases hkx:keyB x with
     | false=>
      go_wp2_with fail;go_ret;exact⟨⟨_,rfl,by simp⟩,Hbr.out⟩
     | true=>
      have HKX:=hd_ hkx;clear hkx;have htm:(j:Int).tmod 2=(j:Int) % 2:=Int.tmod_eq_emod_of_nonneg o_;rw[htm]at hq;(have hq2:((j:Int).tmod 2==0)=q:=by rw[htm];exact hq);clear htm
      cases q with
      | false=>
       have HNX:Hid (∀i,i<j+1->NdO m i):=all_succ HN.out (by unfold NdO;rw[HX0.out];exact⟨HKX.out,fun h=>by simp at hq;omega⟩);go_wp2_with fail;go_roundw;(case rel=>exact⟨j+1,by go_num,by omega,HNX,trivial⟩);case measure=>simp[intOf];omega
      | true=>
       cases hx:(x != 0) with
       | false=>
        have HNX:Hid (∀i,i<j+1->NdO m i):=all_succ HN.out (by unfold NdO;rw[HX0.out];exact⟨HKX.out,fun _=>by simpa using hx⟩);go_wp2_with fail;go_roundw;(case rel=>exact⟨j+1,by go_num,by omega,HNX,trivial⟩);case measure=>simp[intOf];omega
       | true=>
        go_wp2_with fail;go_ret;exact⟨⟨_,rfl,by simp⟩,Hbr.out⟩
   (obtain rfl:j=15:=by omega);go_wp2_with fail;go_ret;exact⟨⟨_,rfl,fun _=>HTK.out HJ8.out HN.out⟩,Hbr.out⟩
def memB(t:List Int)(i:Nat):Bool:=(t.getD (i*2) 0 != 0) || (t.getD (i*2+1) 0 != 0)
def MemF(t:List Int)(n:Int)(r:Ending):Prop:=∃b,r=.returned (.bool b)/\(b=true->0<=n/\n<8/\memB t n.toNat=true)/\(0<=n->n<8->memB t n.toNat=true->b=true)
theorem isMember_f(e k n:Int)(t ch:List Int)(ad:List Bool)(w:World)(h:VwOk t ad ch):Calls prog 149 #[.agg (vw e t ad k ch).toArray,.int .i64 n] w fun r w'=>MemF t n r/\Bl w w':=by
 obtain⟨w1,hW⟩:=ex_ (w.alloc (.cells (vw e t ad k ch).toArray 45));have HC:Hid (Cel w1 w.heap.size 45 (vw e t ad k ch)):=by rw[hW];exact Cel.new _ rfl rfl
 have HV:=hd_ h;have HW:=hd_ hW;clear hW h;go_enter func149,ntmps149
 by_cases h0:0<=n
 · by_cases h8:n<8
   · obtain⟨m,rfl⟩:=Int.eq_ofNat_of_zero_le h0;(have hm:m*2+1<31:=by omega);(have c0:(w.alloc (.cells (vw e t ad k ch).toArray 45)).cell? ⟨w.heap.size,1+m*2,none⟩=some (.int .i64 (t.getD (m*2) 0)):=by rw[<-HW.out,HC.out.cell];exact vw_tree HV.out (m*2) o_);(have c1:(w.alloc (.cells (vw e t ad k ch).toArray 45)).cell? ⟨w.heap.size,1+m*2+1,none⟩=some (.int .i64 (t.getD (m*2+1) 0)):=by rw[<-HW.out,HC.out.cell];exact vw_tree HV.out (m*2+1) hm);have hmb:memB t ((m:Int)).toNat=((t.getD (m*2) 0 != 0) || (t.getD (m*2+1) 0 != 0)):=rfl;generalize t.getD (m*2) 0=x0 at c0 hmb;generalize t.getD (m*2+1) 0=x1 at c1 hmb;have HMB:=hd_ hmb;clear hmb;by_cases hx0:x0=0
     · by_cases hx1:x1=0
       · subst hx0 hx1;go_wp2
         all_goals
          go_ret
          exact⟨⟨_,rfl,by simp,fun _ _ h=>by rw[HMB.out]at h;simp at h⟩,b0_⟩
       subst hx0;go_wp2
       all_goals
        go_ret
        exact⟨⟨_,rfl,fun _=>⟨h0,h8,by rw[HMB.out];simp[hx1]⟩,fun _ _ _=>by simp[hx1]⟩,b0_⟩
     go_wp2
     all_goals
      go_ret
      exact⟨⟨_,rfl,fun _=>⟨h0,h8,by rw[HMB.out];simp[hx0]⟩,fun _ _ _=>by simp[hx0]⟩,b0_⟩
   go_wp2;go_ret;exact⟨⟨_,rfl,by simp,fun _ _=>by omega⟩,b0_⟩
 go_wp2;go_ret;exact⟨⟨_,rfl,by simp,fun _ _=>by omega⟩,b0_⟩
def admN(ad:List Bool):Nat->Nat
 | 0=>0
 | i+1=>admN ad i+(if ad.getD i false=true then 1 else 0)
theorem idx41_f(l:List Bool)(hl:l.length=8)(i:Nat)(hi:i<8)(w:World):(Instr.index 41 (.agg (bools l).toArray) (.int .i64 (i:Int))).run prog w=.ok (.bool (l.getD i false)) w:=by
 obtain⟨inf,hinf,_,hs,_⟩:=info_parts info4;have e:l.getD i false=l[i]:=by rw[List.getD_eq_getElem?_getD,List.getElem?_eq_getElem o_];rfl
 rw[e];exact run_index_plain w 41 4 8 _ i _ inf underlying41 hinf hs kk hi (by simp[bools,List.getElem?_eq_getElem (show i<l.length by omega)])
theorem admN_le(ad:List Bool):∀i,admN ad i<=i
 | 0=>Nat.le_refl _
 | i+1=>by have:=admN_le ad i;unfold admN;split<;>omega
theorem adm_wrap(n i:Nat)(h:n<=i)(hi:i<8):wrap64 ((n:Int)+1)=((n+(if (true=true) then 1 else 0):Nat):Int):=by
 rw[if_pos rfl];unfold wrap64;omega
structure AdmOk (t:List Int) (ad:List Bool) (i:Nat) (x:Int):Prop where
 num:x=admN ad i
 mem:∀j,j<i->ad.getD j false=true->memB t j=true
theorem admins_f(e k:Int)(t ch:List Int)(ad:List Bool)(w:World)(h:VwOk t ad ch):Calls prog 151 #[.agg (vw e t ad k ch).toArray] w fun r w'=>(∃x,r=.returned (.int .i64 x)/\(x = -1\/AdmOk t ad 8 x))/\Bl w w':=by
 obtain⟨w1,hW⟩:=ex_ (w.alloc (.cells (vw e t ad k ch).toArray 45));have HC:Hid (Cel w1 w.heap.size 45 (vw e t ad k ch)):=by rw[hW];exact Cel.new _ rfl rfl
 have Hb:Hid (Bl w w1):=by rw[hW];exact b0_
 have HV:=hd_ h;have HW:=hd_ hW;have HR:Hid (w1.rangeAt w.heap.size 32 (bools ad)):=by
  have:=Cel.range (l1:=.int .i64 e :: ints .i64 t) (l2:=bools ad) (l3:=[.int .i64 k]++ints .u8 ch) (by simpa[vw] using HC.out);have e:(Value.int IntKind.i64 e :: ints .i64 t).length=32:=by simp[ints_len,h.tree]
  rw[e]at this;exact this
 have HI:Hid ((prog.info? 41).map (·.size)=some (bools ad).length):=by show _=_;rw[bools_len,h.admins];exact info41
 clear hW h;go_enter func151,ntmps151
 go_wp2_with ((change wpList _ _ _ _ _ (w.alloc (.cells (vw e t ad k ch).toArray 45)));rw[<-HW.out];refine wpList_load_mid rfl 41 (.tmp 6) rr w.heap.size 32 rr (bools ad) _ HR.out underlying41 rfl HI.out ?_);go_loopw [3,8] (fun vc v wr=>∃(i:Nat) (x:Int),v=.int .i64 i/\vc=.int .i64 x/\i<=8/\Hid (AdmOk t ad i x)/\Hid (Bl w1 wr)) (fun _ v _=>8-(intOf v).toNat)
 case atStart=>exact⟨0,0,rfl,rfl,by omega,hd_ ⟨rfl,fun _ h=>by omega⟩,Below.refl _ _⟩
 case round=>
  obtain⟨i,x,rfl,rfl,hi,HA,hb⟩:=hrel;by_cases hlt:i<8
  · have HC2:=hd_ (HC.out.below hb.out HC.out.lt);have hx:=idx41_f ad HV.out.admins i hlt wr;obtain⟨b,hbb⟩:∃b,ad.getD i false=b:=⟨_,rfl⟩;rw[hbb]at hx;have HBB:=hd_ hbb;clear hbb;have HX:=hd_ hx;clear hx
    cases b with
    | false=>
     go_wp2_with (refine wpList_index rfl 41 (.tmp 7) (.tmp 8) rfl _ _ _ rr rr HX.out ?_);go_roundw;(case rel=>exact⟨i+1,x,by go_num,rfl,by omega,hd_ ⟨by rw[HA.out.num];show _=((admN ad i+_:Nat):Int);rw[HBB.out];simp,all_succ HA.out.mem (fun h=>by rw[HBB.out]at h;cases h)⟩,hb⟩);case measure=>simp[intOf];omega
    | true=>
     go_wp2_with (first|(refine wpList_index rfl 41 (.tmp 7) (.tmp 8) rfl _ _ _ rr rr HX.out ?_)|(refine load_g rr 45 (.tmp 1) rr w.heap.size 0 rr (vw e t ad k ch) _ HC2.out.all underlying45 rfl (vw_hi HV.out) ?_));refine(isMember_f e k i t ch ad _ HV.out).mono ?_;rintro _ w4 ⟨⟨b,rfl,hmem,-⟩,hb4⟩;have HM:=hd_ hmem;clear hmem;have Hb4:=tb_ hb hb4;clear hb4
     cases b with
     | false=>
      go_wp2_with fail;go_ret;exact⟨⟨_,rfl,.inl rfl⟩,Hb.out.trans (Hb4.out.mono Hb.out.size)⟩
     | true=>
      go_wp2_with fail;go_roundw;(case rel=>exact⟨i+1,_,by go_num,rfl,by omega,hd_ ⟨by rw[HA.out.num];show wrap64 _=((admN ad i+_:Nat):Int);rw[HBB.out];exact adm_wrap _ _ (admN_le ad i) hlt,all_succ HA.out.mem (fun _=>(HM.out trivial).2.2)⟩,Hb4⟩);case measure=>simp[intOf];omega
  obtain rfl:i=8:=by omega
  go_wp2_with fail;go_ret;exact⟨⟨_,rfl,.inr HA.out⟩,Hb.out.trans (hb.out.mono Hb.out.size)⟩
end Go.Proofs.YtppjnahcnofokaaGreat.T
namespace Go.Proofs.YtppjnahcnofokaaGreat.T
open Go.RowKit
open Go.Proofs.Tryz
variable{k:IntKind}{a:Act}{b i n B base m fuel D B':Nat}{l ch t0:List Int}{w w' w1 w2:World}{t:TypeId}{P:Program}{cs xs vs l3:List Value}{A A':Option Addr}{o oi:Oper}{e s f st fl:Int}{ops:Array Oper}{rest l0:List Oper}{v:Value}{r:Option Nat}{rs rs2:List (Option Addr×Nat×Nat×List Int)}{E:Prop}{ad ai go:List Bool}{N:Act->Prop}{place:Nat->Option (Nat×Nat)}{bad:Bool}{es es':List (Int×List Int)}{T:List TypeId}
theorem two63':(2:Int) ^ 63=9223372036854775808:=by decide
theorem even_bit(i:Nat)(hi:i<9223372036854775808):bits BinOp.and IntKind.i64 (i:Int) 1=((i % 2:Nat):Int):=by
 have h:=bits_mask .i64 63 dd (fun n h0 h1=>by rw[two63']at h1;rw[IntKind.wrap_i64];omega) 1 dd (i:Int) o_ (by rw[two63'];omega);have e:((2:Int) ^ 1-1)=1:=by decide
 rw[e]at h;rw[h];omega
theorem sq_pow(n b e:Nat):(n*b % 2147483579)*(b*b % 2147483579) ^ e % 2147483579=n*b ^ (2*e+1) % 2147483579:=by
 rw[Nat.mul_mod,Nat.mod_mod,<- Nat.pow_mod,<- Nat.mul_mod,Nat.pow_succ,Nat.pow_mul,Nat.pow_two];congr 1;rw[Nat.mul_assoc,Nat.mul_comm b]
theorem sq_pow0(n b e:Nat):n*(b*b % 2147483579) ^ e % 2147483579=n*b ^ (2*e) % 2147483579:=by
 rw[Nat.mul_mod,<- Nat.pow_mod,<- Nat.mul_mod,Nat.pow_mul,Nat.pow_two]
theorem powR_nat:∀(k n b e:Nat),n<2147483579->e<2 ^ k->k<=60->powR k n b e=((n*b ^ e % 2147483579:Nat):Int)
 | 0,n,b,e,hn,he,_=>by
  have:e=0:=by simpa using he
  subst this;simp only[powR,Nat.pow_zero,Nat.mul_one];rw[Nat.mod_eq_of_lt hn]
 | k+1,n,b,e,hn,he,hk=>by
  unfold powR;by_cases h0:0<(e:Int)
  · rw[if_pos h0];(have he2:e / 2<2 ^ k:=by rw[Nat.pow_succ]at he;omega);(have e1:(e:Int) / 2=((e / 2:Nat):Int):=by omega);(have e2:(b:Int)*b % 2147483579=((b*b % 2147483579:Nat):Int):=by simp);(have e3:(n:Int)*b % 2147483579=((n*b % 2147483579:Nat):Int):=by simp);have hb:e<9223372036854775808:=Nat.lt_of_lt_of_le he (Nat.le_trans (Nat.pow_le_pow_right dd (show k+1<=61 by omega)) dd);rw[even_bit e hb,e1,e2,e3];by_cases ho:e % 2=1;(· rw[if_pos (by simp[ho]),powR_nat k _ _ _ (Nat.mod_lt _ dd) he2 o_,sq_pow];congr 4;omega);rw[if_neg s1_,powR_nat k _ _ _ hn he2 o_,sq_pow0];congr 4;omega
  rw[if_neg h0];have:e=0:=by omega
  subst this;rw[Nat.pow_zero,Nat.mul_one,Nat.mod_eq_of_lt hn]
theorem powF_nat(b e:Nat)(he:e<2147483648):powF b e=((b ^ e % 2147483579:Nat):Int):=by
 have:=powR_nat 31 1 b e dd he dd;rw[Nat.one_mul]at this;exact this
def noDiv:Nat->Nat->Bool
 | 0,lo=>1073741789 % lo != 0
 | k+1,lo=>noDiv k lo&&noDiv k (lo+2 ^ k)
theorem noDiv_spec:∀(k lo d:Nat),noDiv k lo=true->lo<=d->d<lo+2 ^ k->1073741789 % d≠0
 | 0,lo,d,h,h1,h2=>by
  have:d=lo:=by simp at h2;omega
  subst this;simpa[noDiv] using h
 | k+1,lo,d,h,h1,h2=>by
  simp only[noDiv,Bool.and_eq_true]at h;by_cases hd:d<lo+2 ^ k
  · exact noDiv_spec k lo d h.1 h1 hd
  exact noDiv_spec k (lo+2 ^ k) d h.2 o_ (by rw[Nat.pow_succ]at h2;omega)
theorem noDiv_all:noDiv 15 2=true:=by kernel_rfl
theorem q_prime(d:Nat)(h:d ∣ 1073741789)(hd:d≠1073741789):d=1:=by
 obtain⟨m,hm⟩:=h;have small:∀x y:Nat,1073741789=x*y->2<=x->x<32770->False:=fun x y e h1 h2=>
  noDiv_spec 15 2 x noDiv_all h1 h2 (by rw[e];exact Nat.mul_mod_right _ _)
 by_cases hx:d<32770
 · by_cases h2:2<=d;(· exact(small d m hm h2 hx).elim);(have:d=0\/d=1:=by omega);(rcases this with rfl|rfl);(· omega);rfl
 exfalso;by_cases hy:m<32770
 · by_cases h2:2<=m;(· exact small m d (by rw[Nat.mul_comm];exact hm) h2 hy);(have:m=0\/m=1:=by omega);rcases this with rfl|rfl<;>omega
 have:32770*32770<=d*m:=Nat.mul_le_mul o_ o_;omega
theorem four_q:∃q:Nat,q=1073741789/\4 ^ q % 2147483579=1:=by
 obtain⟨q,hq⟩:∃q:Nat,q=1073741789:=⟨_,rfl⟩;refine⟨q,hq,?_⟩;have h:=powF_nat 4 q o_;have h2:powF 4 1073741789=1:=by kernel_rfl
 have e:(1073741789:Int)=(q:Int):=by omega
 rw[e]at h2;have h3:powF 4 (q:Int)=((4 ^ q % 2147483579:Nat):Int):=h;rw[h2]at h3;generalize 4 ^ q % 2147483579=x at h3 ⊢;omega
theorem pow_one_mod(a b:Nat)(h:a ^ b % 2147483579=1)(c:Nat):a ^ (b*c) % 2147483579=1:=by
 rw[Nat.pow_mul,Nat.pow_mod,h,Nat.one_pow]
theorem gcd_one:∀m n:Nat,4 ^ m % 2147483579=1->4 ^ n % 2147483579=1->4 ^ (Nat.gcd m n) % 2147483579=1:=by
 intro m n
 induction m,n using Nat.gcd.induction with
 | H0 n=>intro _ h;rwa [Nat.gcd_zero_left]
 | H1 m n hm ih=>
  intro h1 h2;rw[Nat.gcd_rec];refine ih ?_ h1;have e:n=m*(n / m)+n % m:=(Nat.div_add_mod n m).symm;rw[e,Nat.pow_add,Nat.mul_mod,pow_one_mod 4 m h1,Nat.one_mul,Nat.mod_mod]at h2;exact h2
theorem pub_gen(s:Int)(h:1<=s/\s<=1073741788):pubB (powF 4 s)=true:=by
 obtain⟨n,rfl⟩:∃n:Nat,s=n:=⟨s.toNat,by omega⟩;obtain⟨q,hqq,four⟩:=four_q;have hn:1<=n/\n<q:=by omega
 have h1:powF 4 (n:Int)=((4 ^ n % 2147483579:Nat):Int):=powF_nat 4 n o_;have hlt:4 ^ n % 2147483579<2147483579:=Nat.mod_lt _ dd;have hq:(4 ^ n % 2147483579) ^ q % 2147483579=1:=by rw[<-Nat.pow_mod,<- Nat.pow_mul,Nat.mul_comm,pow_one_mod 4 _ four]
 have y1:4 ^ n % 2147483579≠1:=by
  intro hy;have hg:=gcd_one n q hy four;have hd:Nat.gcd n q≠q:=fun e=>by have:=Nat.gcd_le_left q (show 0<n by omega);omega
  rw[hqq]at hd;have hv:=Nat.gcd_dvd_right n q;rw[hqq]at hv hg;rw[q_prime _ hv hd]at hg;exact absurd hg dd
 generalize hy:4 ^ n % 2147483579=y at *;have h3:powF (y:Int) (q:Int)=((y ^ q % 2147483579:Nat):Int):=powF_nat y q o_;have y0:y≠0:=by rintro rfl;rw[Nat.zero_pow o_]at hq;exact absurd hq dd
 have e:(1073741789:Int)=(q:Int):=by omega
 rw[h1];unfold pubB;rw[e,h3,hq];simp;omega
end Go.Proofs.YtppjnahcnofokaaGreat.T
namespace Go.Proofs.YtppjnahcnofokaaGreat.T
open Go.RowKit Go.Proofs.YtppjnahcnofokaaGreatW.PrintLast
open Go.Proofs.Tryz
variable{k:IntKind}{a:Act}{b i n B base m fuel D B':Nat}{l ch t0:List Int}{w w' w1 w2:World}{t:TypeId}{P:Program}{cs xs vs l3:List Value}{A A':Option Addr}{o oi:Oper}{e s f st fl:Int}{ops:Array Oper}{rest l0:List Oper}{v:Value}{r:Option Nat}{rs rs2:List (Option Addr×Nat×Nat×List Int)}{E:Prop}{ad ai go:List Bool}{N:Act->Prop}{place:Nat->Option (Nat×Nat)}{bad:Bool}{es es':List (Int×List Int)}{T:List TypeId}
structure MayV (e k:Int) (t:List Int) (ad:List Bool):Prop where
 e0:0<=e
 e1:e<=1099511627776
 tree:TreeOk t
 k1:1<=k
 kn:k<=admN ad 8
 mem:∀j,j<8->ad.getD j false=true->memB t j=true
theorem may_of{k x:Int}{t:List Int}(h1:0<=e)(h2:e<=1099511627776)(ht:TreeOk t)(h3:1<=k)(hx:x = -1\/AdmOk t ad 8 x)(hk:k<=x):MayV e k t ad:=by
 rcases hx with rfl|hx
 · omega
 exact⟨h1,h2,ht,h3,by rw[<-hx.num];exact hk,hx.mem⟩
theorem vIs_f(e k:Int)(t ch:List Int)(ad:List Bool)(w:World)(h:VwOk t ad ch):Calls prog 147 #[.agg (vw e t ad k ch).toArray] w fun r w'=>(∃b,r=.returned (.bool b)/\(b=true->MayV e k t ad))/\Bl w w':=by
 obtain⟨w1,hW⟩:=ex_ (w.alloc (.cells (vw e t ad k ch).toArray 45));have HC:Hid (Cel w1 w.heap.size 45 (vw e t ad k ch)):=by rw[hW];exact Cel.new _ rfl rfl
 have Hb:Hid (Bl w w1):=by rw[hW];exact b0_
 have HV:=hd_ h;have HW:=hd_ hW;have HIT:Hid ((prog.info? 40).map (·.size)=some (ints .i64 t).length):=hi40 h.tree;clear hW h;go_enter func147,ntmps147
 go_wp2_with fail;refine pr_ 19 7 (bt 26 524287) fun w1d hw1d=>?_;refine mG ?_;have h1d:Bl w1 w1d:=by rw[<-hw1d,<- HW.out];exact(Below.refl _ _).drew
 have HB1:=hd_ h1d;have HC1:Hid (Cel w1d w.heap.size 45 (vw e t ad k ch)):=HC.out.below h1d HC.out.lt;have c0:w1d.cell? ⟨w.heap.size,0,none⟩=some (.int .i64 e):=by rw[HC1.out.cell];rfl
 have c40:w1d.cell? ⟨w.heap.size,40,none⟩=some (.int .i64 k):=by rw[HC1.out.cell];exact vw_k HV.out
 clear h1d hw1d;by_cases h1:0<=e
 · by_cases h2:e<=1099511627776
   · go_wp2_with (refine load_g rr 40 (.tmp 12) rr w.heap.size 1 rr (ints .i64 t) _ (vw_trange HV.out HC1.out) underlying40 rfl HIT.out ?_);refine(tIs_f t _ HV.out.tree).mono ?_;rintro _ w4 ⟨⟨q,rfl,htr⟩,hb4⟩;have HTR:=hd_ htr;clear htr;have Hb4:=tb_ HB1 hb4;have c40':w4.cell? ⟨w.heap.size,40,none⟩=some (.int .i64 k):=(hb4.cell (Nat.lt_of_lt_of_le HC.out.lt HB1.out.size)).trans c40;clear c40 c0 hb4
     cases q with
     | false=>
      go_wp2_with fail;refine wpAny_of_last (S:=fun w'=>w'.cell? ⟨w.heap.size,40,none⟩=some (.int .i64 k)/\Hid (Bl w1 w')) (ds:=[23,24,25]) _ _ _ _ ?_;have hH:=And.intro c40' Hb4;refine ts_ 19 4 3 (bt 26 8388607) hH ?_;refine mT2 ?_;refine tl_ 23 ?_;refine mF ?_;go_wp2;go_ret;exact⟨⟨_,rfl,by simp⟩,Hb.out.trans (hH.2.out.mono Hb.out.size)⟩
     | true=>
      by_cases h3:1<=k;(· go_wp2_with fail;refine wpAny_of_last (S:=fun w'=>w'.cell? ⟨w.heap.size,40,none⟩=some (.int .i64 k)/\Hid (Bl w1 w')) (ds:=[23,24,25]) _ _ _ _ ?_;have hH:=And.intro c40' Hb4;refine ts_ 19 3 4 (bt 26 4194303) hH ?_;refine mD ?_;(repeat (first|(refine tk_ 45 (.tmp 1) w.heap.size 0 (vw e t ad k ch) (fun _ h=>(HC.out.below h.2.out HC.out.lt).all) underlying45 rfl (vw_hi HV.out) ?_)|(refine uA ?_)|(refine mB2 ?_)));refine takes_nil ?_;refine one_ (i:=22) (N:=some 25) (bt 26 8388607) rfl rfl kk dd (fun K hK=>?_);refine goes_ func151 kk rfl #[.agg (vw e t ad k ch).toArray] rr rfl rfl mL ?_;refine(admins_f e k t ch ad _ HV.out).mono ?_;rintro _ w5 ⟨⟨x,rfl,hadm⟩,hb5⟩;have HAD:=hd_ hadm;clear hadm;refine⟨_,rfl,?_⟩;refine hK.out _ _ ⟨(hb5.cell (Nat.lt_of_lt_of_le HC.out.lt hH.2.out.size)).trans hH.1,hH.2.out.trans (hb5.mono hH.2.out.size)⟩ (fun hH=>?_);clear hK K hb5;refine mN ?_;refine tl_ 23 ?_;refine mF ?_;go_wp2;go_ret;exact⟨⟨_,rfl,fun hk=>may_of h1 h2 (HTR.out trivial) h3 HAD.out (by simpa using hk)⟩,Hb.out.trans (hH.2.out.mono Hb.out.size)⟩);go_wp2_with fail;simp only[show decide (1<=k)=false from by simpa using h3];refine wpAny_of_last (S:=fun w'=>w'.cell? ⟨w.heap.size,40,none⟩=some (.int .i64 k)/\Hid (Bl w1 w')) (ds:=[23,24,25]) _ _ _ _ ?_;have hH:=And.intro c40' Hb4;refine ts_ 19 4 3 (bt 26 8388607) hH ?_;refine mT2 ?_;refine tl_ 23 ?_;refine mF ?_;go_wp2;go_ret;exact⟨⟨_,rfl,by simp⟩,Hb.out.trans (hH.2.out.mono Hb.out.size)⟩
   go_wp2_with fail;refine wpAny_of_last (S:=fun w'=>w'.cell? ⟨w.heap.size,40,none⟩=some (.int .i64 k)/\Hid (Bl w1 w')) (ds:=[23,24,25]) _ _ _ _ ?_;have hH:=And.intro c40 HB1;refine ts_ 19 4 3 (bt 26 8388607) hH ?_;refine mT2 ?_;refine tl_ 23 ?_;refine mF ?_;go_wp2;go_ret;exact⟨⟨_,rfl,by simp⟩,Hb.out.trans (hH.2.out.mono Hb.out.size)⟩
 go_wp2_with fail;refine wpAny_of_last (S:=fun w'=>w'.cell? ⟨w.heap.size,40,none⟩=some (.int .i64 k)/\Hid (Bl w1 w')) (ds:=[23,24,25]) _ _ _ _ ?_;have hH:=And.intro c40 HB1;refine ts_ 19 4 3 (bt 26 8388607) hH ?_;refine mT2 ?_;refine tl_ 23 ?_;refine mF ?_;go_wp2;go_ret;exact⟨⟨_,rfl,by simp⟩,Hb.out.trans (hH.2.out.mono Hb.out.size)⟩
end Go.Proofs.YtppjnahcnofokaaGreat.T
namespace Go.Proofs.YtppjnahcnofokaaGreat.T
open Go.RowKit Go.Proofs.YtppjnahcnofokaaGreatW.PrintLast
open Go.Proofs.Tryz
variable{k:IntKind}{a:Act}{b i n B base m fuel D B':Nat}{l ch t0:List Int}{w w' w1 w2:World}{t:TypeId}{P:Program}{cs xs vs l3:List Value}{A A':Option Addr}{o oi:Oper}{e s f st fl:Int}{ops:Array Oper}{rest l0:List Oper}{v:Value}{r:Option Nat}{rs rs2:List (Option Addr×Nat×Nat×List Int)}{E:Prop}{ad ai go:List Bool}{N:Act->Prop}{place:Nat->Option (Nat×Nat)}{bad:Bool}{es es':List (Int×List Int)}{T:List TypeId}
theorem pub_key{x:Int}(h:pubB x=true):keyB x=true/\x≠0:=by
 refine⟨by unfold keyB;rw[h];simp,?_⟩;unfold pubB at h;simp at h;omega
theorem PutOk.tree{t:List Int}{a b:Int}(h:PutOk t m a b l)(ht:TreeOk t)(hk:keyB a=true/\keyB b=true/\(a=0↔b=0)):TreeOk l:=by
 refine⟨h.len,fun i hi=>?_,fun i hi=>?_⟩
 · by_cases e:i=m;(· subst e;rw[h.s,h.e];exact hk);rw[h.oth (i*2) o_ o_ o_,h.oth (i*2+1) o_ o_ o_];exact ht.leaf i hi
 rcases h.nod (16+i) o_ with e|e
 · rw[e];exact ht.node i hi
 rw[e];exact⟨by decide,fun _=>rfl⟩
theorem PutOk.mem{t:List Int}{a b:Int}(h:PutOk t m a b l)(i:Nat)(hi:i<8)(e:i≠m):memB l i=memB t i:=by
 unfold memB;rw[h.oth (i*2) o_ o_ o_,h.oth (i*2+1) o_ o_ o_]
theorem PutOk.mem_self{t:List Int}{a b:Int}(h:PutOk t m a b l)(ha:a≠0):memB l m=true:=by
 unfold memB;rw[h.s];simp[ha]
structure ChS (t0:List Int) (f:Int) (t:List Int) (ad:List Bool) (k:Int) (go:List Bool):Prop where
 tree:TreeOk t
 mem:∀j,j<8->ad.getD j false=true->memB t j=true
 k1:1<=k
 keep:∀i,i<8->memB t0 i=true->memB t i=true\/go.getD i false=true
 frm:∀i:Nat,i<8->(i:Int)=f->memB t i=true
theorem ChS.add{t:List Int}{k x y:Int}(h:ChS t0 f t ad k go)(hp:PutOk t m x y l)(hx:pubB x=true)(hy:pubB y=true):ChS t0 f l ad k go:=by
 have kx:=pub_key hx;have ky:=pub_key hy;have up:∀i,i<8->memB t i=true->memB l i=true:=fun i hi hm=>by
  by_cases e:i=m
  · subst e;exact hp.mem_self kx.2
  rw[hp.mem i hi e];exact hm
 exact⟨hp.tree h.tree ⟨kx.1,ky.1,by simp[kx.2,ky.2]⟩,fun j hj hd=>up j hj (h.mem j hj hd),h.k1,fun i hi h0=>(h.keep i hi h0).imp (up i hi) id,fun i hi e=>up i hi (h.frm i hi e)⟩
theorem getDb_set_self{l:List Bool}{x:Bool}(h:i<l.length):(l.set i x).getD i false=x:=by
 rw[List.getD_eq_getElem?_getD,List.getElem?_set_self h];rfl
theorem getDb_set_ne{l:List Bool}{j:Nat}{x:Bool}(h:i≠j):(l.set i x).getD j false=l.getD j false:=by
 rw[List.getD_eq_getElem?_getD,List.getElem?_set_ne h,<- List.getD_eq_getElem?_getD]
theorem ChS.rem{t:List Int}{k:Int}(h:ChS t0 f t ad k go)(hp:PutOk t m 0 0 l)(hm:m<8)(hf:(m:Int)≠f)(ha:ad.length=8)(hg:go.length=8):ChS t0 f l (ad.set m false) k (go.set m true):=by
 refine⟨hp.tree h.tree ⟨by decide,by decide,Iff.rfl⟩,fun j hj hd=>?_,h.k1,fun i hi h0=>?_,fun i hi e=>?_⟩
 · by_cases e:m=j;(· subst e;rw[getDb_set_self o_]at hd;cases hd);rw[getDb_set_ne e]at hd;rw[hp.mem j hj (fun h=>e h.symm)];exact h.mem j hj hd
 · by_cases e:m=i;(· subst e;exact .inr (getDb_set_self o_));rw[getDb_set_ne e,hp.mem i hi (fun h=>e h.symm)];exact h.keep i hi h0
 rw[hp.mem i hi (fun h=>hf (by rw[<-h];exact e))];exact h.frm i hi e
theorem ChS.adm{t:List Int}{k:Int}(h:ChS t0 f t ad k go)(is:Bool)(hm:memB t m=true):ChS t0 f t (ad.set m is) k go:=by
 refine⟨h.tree,fun j hj hd=>?_,h.k1,h.keep,h.frm⟩;by_cases e:m=j
 · subst e;exact hm
 rw[getDb_set_ne e]at hd;exact h.mem j hj hd
theorem ChS.lim{t:List Int}{k:Int}(h:ChS t0 f t ad k go)(c:Int)(hc:1<=c):ChS t0 f t ad c go:=⟨h.tree,h.mem,hc,h.keep,h.frm⟩
def ChPostF(t0:List Int)(g:Nat)(e:Int)(ch:List Int)(f:Int)(w:World)(r:Ending)(w':World):Prop:=
 (∃x t ad k ai go,r=.returned (.int .i64 x)/\ChOk t ad ch ai go/\Cel w' g 224 (chg e t ad k ch f ai go)/\ChS t0 f t ad k go)/\w.grownBy w' (some g)
theorem chPostF{g:Nat}{k x:Int}{t:List Int}(hs:ChS t0 f t ad k go)(ho:ChOk t ad ch ai go)(hc:Cel w' g 224 (chg e t ad k ch f ai go))(hg:w.grownBy w' (some g)):ChPostF t0 g e ch f w (.returned (.int .i64 x)) w':=⟨⟨x,t,ad,k,ai,go,rfl,ho,hc,hs⟩,hg⟩
theorem chAdd_f(g:Nat)(e k f x y:Int)(t0 t ch:List Int)(ad ai go:List Bool)(w:World)(ho:ChOk t ad ch ai go)(hs:ChS t0 f t ad k go)(hg:Cel w g 224 (chg e t ad k ch f ai go)):Calls prog 191 #[.pointer (some ⟨g,0,none⟩),.agg #[.int .i64 x,.int .i64 y]] w (ChPostF t0 g e ch f w):=by
 obtain⟨w1,hW⟩:=ex_ (w.alloc (.cells #[.int .i64 x,.int .i64 y] 36));have HX:Hid (Blk w1 w.heap.size .i64 36 [x,y]):=by rw[hW];exact blk_new _ .i64 36 [x,y] _ rfl
 have HG:Hid (Cel w1 g 224 (chg e t ad k ch f ai go)):=by rw[hW];exact hg.alloc _
 have Hb:Hid (Bl w w1):=by rw[hW];exact b0_
 have HO:=hd_ ho;have HS:=hd_ hs;clear hs;have HG0:=hd_ hg;have HW:=hd_ hW;clear hW hg ho;go_enter func191,ntmps191
 go_wp2_with fail;refine(pIs_any _ _).mono ?_;rintro _ w2 ⟨rfl,rfl⟩;obtain⟨qx,hqx⟩:∃q,pubB x=q:=⟨_,rfl⟩;rw[hqx];have HQX:=hd_ hqx;clear hqx
 cases qx with
 | false=>
  go_wp2_with fail;go_ret;rw[<-HW.out];exact chPostF HS.out HO.out HG.out (grownBy_of Hb.out)
 | true=>
  go_wp2_with fail
  refine(pIs_any _ _).mono ?_
  rintro _ w2 ⟨rfl,rfl⟩
  obtain⟨qy,hqy⟩:∃q,pubB y=q:=⟨_,rfl⟩
  rw[hqy]
  have HQY:=hd_ hqy
  clear hqy
  cases qy with
  | false=>
   go_wp2_with fail;go_ret;rw[<-HW.out];exact chPostF HS.out HO.out HG.out (grownBy_of Hb.out)
  | true=>
   have HL:Hid (LeafR w1 (some ⟨g,1,none⟩) 8 8 (t.take 16)):=chg_leaves HG.out HO.out.vw.tree
   go_wp2_with fail
   rw[<-HW.out]
   refine(hasLeaf_any (some ⟨g,1,none⟩) 8 8 (t.take 16) x ⟨w.heap.size,0,none⟩ w1 HL.out o_ HX.out.lt rfl (HX.out.cell rfl)).mono ?_
   rintro _ w3 ⟨⟨q,rfl⟩,hb3⟩
   have HG3:=hd_ (HG.out.below hb3 HG.out.lt)
   have HX3:=hd_ (HX.out.below hb3 HX.out.lt)
   have Hb3:Hid (Bl w w3):=Hb.out.trans (hb3.mono Hb.out.size)
   have HL3:Hid (LeafR w3 (some ⟨g,1,none⟩) 8 8 (t.take 16)):=chg_leaves HG3.out HO.out.vw.tree
   clear hb3
   cases q with
   | true=>
    go_wp2_with fail;go_ret;exact chPostF HS.out HO.out HG3.out (grownBy_of Hb3.out)
   | false=>
    go_wp2_with fail
    refine(findLeaf_any (some ⟨g,1,none⟩) 8 8 (t.take 16) 0 0 w3 HL3.out o_).mono ?_
    rintro _ w4 ⟨⟨z,rfl,hz⟩,hb4⟩
    have HG4:=hd_ (HG3.out.below hb4 HG3.out.lt)
    have HX4:=hd_ (HX3.out.below hb4 HX3.out.lt)
    have Hb4:Hid (Bl w w4):=Hb3.out.trans (hb4.mono Hb3.out.size)
    clear hb4
    by_cases hz0:z<0
    · go_wp2_with fail;go_ret;exact chPostF HS.out HO.out HG4.out (grownBy_of Hb4.out)
    · obtain⟨m,rfl⟩:=Int.eq_ofNat_of_zero_le (show 0<=z by omega);(have hm:m<8:=by have:=hz o_;omega);clear hz hz0;go_wp2_with fail;refine pr_ 0 13 (bt 13 0) fun w1d hw1d=>?_;refine mG ?_;(have HG5:Hid (Cel w1d g 224 (chg e t ad k ch f ai go)):=by rw[<-hw1d];exact HG4.out);(have HX5:Hid (Blk w1d w.heap.size .i64 36 [x,y]):=by rw[<-hw1d];exact HX4.out);(have Hb5:Hid (Bl w w1d):=by rw[<-hw1d];exact Hb4.out.drew);have c0:w1d.cell? ⟨w.heap.size,0,none⟩=some (.int .i64 x):=HX5.out.cell rfl;have c1:w1d.cell? ⟨w.heap.size,1,none⟩=some (.int .i64 y):=HX5.out.cell rfl;clear hw1d;refine wpAny_of_last (S:=fun w'=>w'=w1d) (ds:=[8,9,10,11,12]) _ _ _ _ ?_;have hH:w1d=w1d:=rfl;refine ps_ 0 1 12 (bt 13 1) ?_;refine mT1 ?_;refine ts_ 1 7 5 (bt 13 255) hH ?_;refine mD ?_;(repeat (first|(refine tk_ 40 (.tmp 42) g 1 (ints .i64 t) (fun _ h=>by rw[h];exact chg_tree HG5.out) underlying40 rfl (hi40 HO.out.vw.tree).out ?_)|(refine uA ?_)|(refine uS ?_)));refine takes_nil ?_;refine tl_ 8 ?_;refine mF ?_;go_wp2_with fail;refine(put_f t m x y w1d HO.out.vw.tree hm).mono ?_;rintro _ w6 ⟨⟨t2,hpo,rfl⟩,hb6⟩;have ht2:=hpo.len;have HS2:=hd_ (HS.out.add hpo HQX.out HQY.out);clear hpo;have HG6:=hd_ (HG5.out.below hb6 HG5.out.lt);have Hb6:Hid (Bl w w6):=Hb5.out.trans (hb6.mono Hb5.out.size);have HO2:Hid (ChOk t2 ad ch ai go):=⟨⟨ht2,HO.out.vw.admins,HO.out.vw.chain⟩,HO.out.ai,HO.out.go⟩;have HI2:Hid ((prog.info? 40).map (·.size)=some (ints .i64 t2).length):=hi40 ht2;clear hb6 ht2 c0 c1 hH
      go_wp2_with (refine store_cel rfl 40 (.tmp 49) (.tmp 46) rr g 1 224 [.int .i64 e] (ints .i64 t) ((bools ad++([.int .i64 k]++ints .u8 ch))++([.int .i64 f]++(bools ai++bools go))) (ints .i64 t2) rr rr (chg_split HG6.out) rfl (by rw[ints_len,ints_len,HO.out.vw.tree,HO2.out.vw.tree]) HI2.out (all_ints _ _) ?_
                   intro w7 hc7 hg7
                   have HG7:Hid (Cel w7 g 224 (chg e t2 ad k ch f ai go)):=chg_join hc7
                   have Hg7:Hid (w.grownBy w7 (some g)):=grownBy_tr (grownBy_of Hb6.out) hg7
                   have d0:w7.cell? ⟨g,74+m,none⟩=some (.bool (ai.getD m false)):=by rw[HG7.out.cell,chg_ai HO2.out m hm]
                   have f0:=HG7.out.free (74+m)
                   clear hc7 hg7)
      go_ret;exact chPostF (ai:=ai.set m true) HS2.out ⟨HO2.out.vw,by rw[List.length_set];exact HO2.out.ai,HO2.out.go⟩ (by rw[<-chg_set_ai HO2.out m hm];exact HG7.out.set _ _) (grownBy_tr Hg7.out (grownBy_set1 _ _ _ _))
theorem chAdmin_f(g:Nat)(e k f n:Int)(is:Bool)(t0 t ch:List Int)(ad ai go:List Bool)(w:World)(ho:ChOk t ad ch ai go)(hs:ChS t0 f t ad k go)(hg:Cel w g 224 (chg e t ad k ch f ai go)):Calls prog 193 #[.pointer (some ⟨g,0,none⟩),.int .i64 n,.bool is] w (ChPostF t0 g e ch f w):=by
 have HO:=hd_ ho;have HS:=hd_ hs;clear hs;have HG:=hd_ hg;clear hg ho;go_enter func193,ntmps193
 go_wp2_with (refine wpList_load_mid rfl 45 (.tmp 9) rr g 0 rr (vw e t ad k ch) _ (chg_view HG.out) underlying45 rfl (vw_hi HO.out.vw) ?_);refine(isMember_f e k n t ch ad _ HO.out.vw).mono ?_;rintro _ w5 ⟨⟨q,rfl,hq,-⟩,hb5⟩;have HG5:=hd_ (HG.out.below hb5 HG.out.lt);have HB5:=hd_ hb5;clear hb5
 cases q with
 | false=>
  go_wp2_with fail;go_ret;exact chPostF HS.out HO.out HG5.out (grownBy_of HB5.out)
 | true=>
  have hin:=hq rfl;clear hq;obtain⟨m,rfl⟩:=Int.eq_ofNat_of_zero_le hin.1;have hm:m<8:=by omega
  have HSA:Hid (ChS t0 f t (ad.set m is) k go):=HS.out.adm is hin.2.2;have c0:w5.cell? ⟨g,32+m,none⟩=some (.bool (ad.getD m false)):=by rw[HG5.out.cell,chg_admin HO.out m hm]
  have f0:=HG5.out.free (32+m);generalize ad.getD m false=q0 at c0
  cases hqi:(q0==is) with
  | true=>
   go_wp2_with fail;go_ret;exact chPostF HS.out HO.out HG5.out (grownBy_of HB5.out)
  | false=>
   go_wp2_with fail;go_ret;exact chPostF (ad:=ad.set m is) HSA.out ⟨⟨HO.out.vw.tree,by rw[List.length_set];exact HO.out.vw.admins,HO.out.vw.chain⟩,HO.out.ai,HO.out.go⟩ (by rw[<-chg_set_admin HO.out m hm];exact HG5.out.set _ _) (grownBy_tr (grownBy_of HB5.out) (grownBy_set1 _ _ _ _))
theorem chRemove_f(g:Nat)(e k f n:Int)(t0 t ch:List Int)(ad ai go:List Bool)(w:World)(ho:ChOk t ad ch ai go)(hs:ChS t0 f t ad k go)(hg:Cel w g 224 (chg e t ad k ch f ai go)):Calls prog 192 #[.pointer (some ⟨g,0,none⟩),.int .i64 n] w (ChPostF t0 g e ch f w):=by
 have HO:=hd_ ho;have HS:=hd_ hs;clear hs;have HG:=hd_ hg;clear hg ho;go_enter func192,ntmps192
 go_wp2_with (refine wpList_load_mid rfl 45 (.tmp 7) rr g 0 rr (vw e t ad k ch) _ (chg_view HG.out) underlying45 rfl (vw_hi HO.out.vw) ?_);refine(isMember_f e k n t ch ad _ HO.out.vw).mono ?_;rintro _ w5 ⟨⟨q,rfl,hq,-⟩,hb5⟩;have HG5:=hd_ (HG.out.below hb5 HG.out.lt);have HB5:=hd_ hb5;clear hb5
 cases q with
 | false=>
  go_wp2_with fail;go_ret;exact chPostF HS.out HO.out HG5.out (grownBy_of HB5.out)
 | true=>
  have hin:=hq rfl
  clear hq
  obtain⟨m,rfl⟩:=Int.eq_ofNat_of_zero_le hin.1
  have hm:m<8:=by omega
  have c0:w5.cell? ⟨g,73,none⟩=some (.int .i64 f):=by rw[HG5.out.cell,chg_from HO.out]
  cases hqi:((m:Int)==f) with
  | true=>
   go_wp2_with fail;go_ret;exact chPostF HS.out HO.out HG5.out (grownBy_of HB5.out)
  | false=>
   go_wp2_with (refine wpList_load_mid rfl 40 (.tmp 24) rr g 1 rr (ints .i64 t) _ (chg_tree HG5.out) underlying40 rfl (hi40 HO.out.vw.tree).out ?_)
   refine(put_f t m 0 0 w5 HO.out.vw.tree hm).mono ?_
   rintro _ w6 ⟨⟨t2,hpo,rfl⟩,hb6⟩
   have ht2:=hpo.len
   have HS2:=hd_ (HS.out.rem hpo hm (by simpa using hqi) HO.out.vw.admins HO.out.go)
   clear hpo
   have HG6:=hd_ (HG5.out.below hb6 HG5.out.lt)
   have Hb6:Hid (Bl w w6):=HB5.out.trans (hb6.mono HB5.out.size)
   have HO2:Hid (ChOk t2 ad ch ai go):=⟨⟨ht2,HO.out.vw.admins,HO.out.vw.chain⟩,HO.out.ai,HO.out.go⟩
   have HI2:Hid ((prog.info? 40).map (·.size)=some (ints .i64 t2).length):=hi40 ht2
   clear hb6 ht2 c0
   go_wp2_with (refine store_cel rfl 40 (.tmp 31) (.tmp 28) rr g 1 224 [.int .i64 e] (ints .i64 t) ((bools ad++([.int .i64 k]++ints .u8 ch))++([.int .i64 f]++(bools ai++bools go))) (ints .i64 t2) rr rr (chg_split HG6.out) rfl (by rw[ints_len,ints_len,HO.out.vw.tree,HO2.out.vw.tree]) HI2.out (all_ints _ _) ?_
                intro w7 hc7 hg7
                have HG7:Hid (Cel w7 g 224 (chg e t2 ad k ch f ai go)):=chg_join hc7
                have Hg7:Hid (w.grownBy w7 (some g)):=grownBy_tr (grownBy_of Hb6.out) hg7
                clear hc7 hg7)
   refine pr_ 0 19 (bt 19 0) fun w1d hw1d=>?_
   refine mG ?_
   have hH:=True.intro
   have d0:w1d.cell? ⟨g,32+m,none⟩=some (.bool (ad.getD m false)):=by rw[<-hw1d];exact(HG7.out.cell _).trans (chg_admin HO2.out m hm)
   have f0:w1d.frozen? ⟨g,32+m,none⟩=false:=by rw[<-hw1d];exact HG7.out.free _
   have HG7:Hid (Cel w1d g 224 (chg e t2 ad k ch f ai go)):=by rw[<-hw1d];exact HG7.out
   have Hg7:Hid (w.grownBy w1d (some g)):=by rw[<-hw1d];exact grownBy_drew' Hg7.out
   clear hw1d
   refine wpAny_of_last (S:=fun _=>True) (ds:=[18]) _ _ _ _ ?_
   refine ts_ 0 10 9 (bt 19 1023) hH ?_
   refine mT0 ?_
   refine ts_ 11 2 7 (bt 19 7167) hH ?_
   refine mT0 ?_
   refine ts_ 15 2 5 (bt 19 105471) hH ?_
   refine mT0 ?_
   refine one_ (i:=10) (N:=none) (bt 19 106495) rfl rfl kk dd (fun K hK=>?_)
   refine skip_ rr rfl (w1:=World.setCell w1d ⟨g,32+m,none⟩ (.bool false)) (by go_simp) ?_
   refine hK.out _ _ trivial (fun hH=>?_)
   clear hK K d0 f0
   generalize hWA:World.setCell w1d ⟨g,32+m,none⟩ (.bool false)=wA
   have HGA:Hid (Cel wA g 224 (chg e t2 (ad.set m false) k ch f ai go)):=by rw[<-hWA,<- chg_set_admin HO2.out m hm];exact HG7.out.set _ _
   have HgA:Hid (w.grownBy wA (some g)):=by rw[<-hWA];exact grownBy_tr Hg7.out (grownBy_set1 _ _ _ _)
   clear hWA
   have HOA:Hid (ChOk t2 (ad.set m false) ch ai go):=⟨⟨HO2.out.vw.tree,by rw[List.length_set];exact HO2.out.vw.admins,HO2.out.vw.chain⟩,HO2.out.ai,HO2.out.go⟩
   have d0:wA.cell? ⟨g,74+m,none⟩=some (.bool (ai.getD m false)):=by rw[HGA.out.cell,chg_ai HOA.out m hm]
   have f0:=HGA.out.free (74+m)
   refine ts_ 13 1 3 (bt 19 114687) hH ?_
   refine mT0 ?_
   refine one_ (i:=14) (N:=none) (bt 19 131071) rfl rfl kk dd (fun K hK=>?_)
   refine skip_ rr rfl (w1:=World.setCell wA ⟨g,74+m,none⟩ (.bool false)) (by go_simp) ?_
   refine hK.out _ _ trivial (fun hH=>?_)
   clear hK K d0 f0
   generalize hWB:World.setCell wA ⟨g,74+m,none⟩ (.bool false)=wB
   have HGB:Hid (Cel wB g 224 (chg e t2 (ad.set m false) k ch f (ai.set m false) go)):=by rw[<-hWB,<- chg_set_ai HOA.out m hm];exact HGA.out.set _ _
   have HgB:Hid (w.grownBy wB (some g)):=by rw[<-hWB];exact grownBy_tr HgA.out (grownBy_set1 _ _ _ _)
   clear hWB
   have HOB:Hid (ChOk t2 (ad.set m false) ch (ai.set m false) go):=⟨HOA.out.vw,by rw[List.length_set];exact HOA.out.ai,HOA.out.go⟩
   have d0:wB.cell? ⟨g,82+m,none⟩=some (.bool (go.getD m false)):=by rw[HGB.out.cell,chg_go HOB.out m hm]
   have f0:=HGB.out.free (82+m)
   refine ts_ 17 1 1 (bt 19 262143) hH ?_
   refine mT0 ?_
   refine tl_ 18 ?_
   refine mF ?_
   go_wp2
   go_ret
   exact chPostF (go:=go.set m true) HS2.out ⟨HOB.out.vw,HOB.out.ai,by rw[List.length_set];exact HOB.out.go⟩ (by rw[<-chg_set_go HOB.out m hm];exact HGB.out.set _ _) (grownBy_tr HgB.out (grownBy_set1 _ _ _ _))
theorem chOp_f(g:Nat)(e k f a b c d e2:Int)(t0 t ch:List Int)(ad ai go:List Bool)(w:World)(ho:ChOk t ad ch ai go)(hs:ChS t0 f t ad k go)(hg:Cel w g 224 (chg e t ad k ch f ai go)):Calls prog 150 #[.pointer (some ⟨g,0,none⟩),opv a b c d e2] w (ChPostF t0 g e ch f w):=by
 obtain⟨w1,hW⟩:=ex_ (w.alloc (.cells #[.int .i64 a,.int .i64 b,.int .i64 c,.int .i64 d,.int .i64 e2] 55));have HG:Hid (Cel w1 g 224 (chg e t ad k ch f ai go)):=by rw[hW];exact hg.alloc _
 have Hb:Hid (Bl w w1):=by rw[hW];exact b0_
 have HO:=hd_ ho;have HS:=hd_ hs;clear hs;have HW:=hd_ hW;clear hg ho hW;unfold opv;go_enter func150,ntmps150
 by_cases h1:a=1
 · subst h1;go_wp2_with fail;rw[<-HW.out];refine(chAdd_f g e k f d e2 t0 t ch ad ai go w1 HO.out HS.out HG.out).mono ?_;rintro _ w5 ⟨⟨x,t2,ad2,k2,ai2,go2,rfl,ho2,hg2,hs2⟩,hb2⟩;go_wp2_with fail;go_ret;exact chPostF hs2 ho2 hg2 (grownBy_tr (grownBy_of Hb.out) hb2)
 by_cases h2:a=2
 · subst h2;go_wp2_with fail;rw[<-HW.out];refine(chRemove_f g e k f b t0 t ch ad ai go w1 HO.out HS.out HG.out).mono ?_;rintro _ w5 ⟨⟨x,t2,ad2,k2,ai2,go2,rfl,ho2,hg2,hs2⟩,hb2⟩;go_wp2_with fail;go_ret;exact chPostF hs2 ho2 hg2 (grownBy_tr (grownBy_of Hb.out) hb2)
 by_cases h3:a=3
 · subst h3;go_wp2_with fail;rw[<-HW.out];refine(chAdmin_f g e k f b _ t0 t ch ad ai go w1 HO.out HS.out HG.out).mono ?_;rintro _ w5 ⟨⟨x,t2,ad2,k2,ai2,go2,rfl,ho2,hg2,hs2⟩,hb2⟩;go_wp2_with fail;go_ret;exact chPostF hs2 ho2 hg2 (grownBy_tr (grownBy_of Hb.out) hb2)
 by_cases h4:a=4
 · subst h4;go_wp2_with fail;rw[<-HW.out];refine(chAdmin_f g e k f b _ t0 t ch ad ai go w1 HO.out HS.out HG.out).mono ?_;rintro _ w5 ⟨⟨x,t2,ad2,k2,ai2,go2,rfl,ho2,hg2,hs2⟩,hb2⟩;go_wp2_with fail;go_ret;exact chPostF hs2 ho2 hg2 (grownBy_tr (grownBy_of Hb.out) hb2)
 have d0:(w.alloc (.cells #[.int .i64 a,.int .i64 b,.int .i64 c,.int .i64 d,.int .i64 e2] 55)).cell? ⟨g,40,none⟩=some (.int .i64 k):=by rw[<-HW.out,HG.out.cell,chg_k HO.out]
 have f0:(w.alloc (.cells #[.int .i64 a,.int .i64 b,.int .i64 c,.int .i64 d,.int .i64 e2] 55)).frozen? ⟨g,40,none⟩=false:=by rw[<-HW.out];exact HG.out.free 40
 by_cases hc1:c<1
 · clear d0 f0;go_wp2_with fail;go_ret;rw[<-HW.out];exact chPostF HS.out HO.out HG.out (grownBy_of Hb.out)
 by_cases hc8:c > 8
 · clear d0 f0;go_wp2_with fail;go_ret;rw[<-HW.out];exact chPostF HS.out HO.out HG.out (grownBy_of Hb.out)
 go_wp2_with fail;go_ret;rw[<-HW.out];exact chPostF (HS.out.lim c hc1) ⟨⟨HO.out.vw.tree,HO.out.vw.admins,HO.out.vw.chain⟩,HO.out.ai,HO.out.go⟩ (by rw[<-chg_set_k HO.out c];exact HG.out.set _ _) (grownBy_tr (grownBy_of Hb.out) (grownBy_set1 _ _ _ _))
end Go.Proofs.YtppjnahcnofokaaGreat.T
namespace Go.Proofs.YtppjnahcnofokaaGreat.T
open Go.RowKit Go.Proofs.YtppjnahcnofokaaGreatW.PrintLast
open Go.Proofs.Tryz
variable{k:IntKind}{a:Act}{b i n B base m fuel D B':Nat}{l ch t0:List Int}{w w' w1 w2:World}{t:TypeId}{P:Program}{cs xs vs l3:List Value}{A A':Option Addr}{o oi:Oper}{e s f st fl:Int}{ops:Array Oper}{rest l0:List Oper}{v:Value}{r:Option Nat}{rs rs2:List (Option Addr×Nat×Nat×List Int)}{E:Prop}{ad ai go:List Bool}{N:Act->Prop}{place:Nat->Option (Nat×Nat)}{bad:Bool}{es es':List (Int×List Int)}{T:List TypeId}
structure ApK (e k f:Int) (t:List Int) (ad:List Bool) (k2:Int) (t2:List Int) (ad2 go:List Bool):Prop where
 old:MayV e k t ad
 new:MayV e k2 t2 ad2
 keep:∀i,i<8->memB t i=true->memB t2 i=true\/go.getD i false=true
 frm:∀i:Nat,i<8->(i:Int)=f->memB t2 i=true
def ApRF(e k:Int)(t ch:List Int)(ad:List Bool)(f:Int)(n:Nat)(r:Ending):Prop:=∃x e2 t2 ad2 k2 ch2 ai go,r=.returned (.tuple #[.agg (vw e2 t2 ad2 k2 ch2).toArray,.agg (bools ai).toArray,.agg (bools go).toArray,.int .i64 x])/\VwOk t2 ad2 ch2/\ai.length=8/\go.length=8/\(x=0->e2=e/\ch2=ch/\n<=4/\(0<=f/\f<8)/\ApK e k f t ad k2 t2 ad2 go)
theorem apFailF{k x:Int}{t:List Int}(hx:x≠0):ApRF e k t ch ad f n (.returned (.tuple #[.agg zvw.toArray,.agg (bools zb).toArray,.agg (bools zb).toArray,.int .i64 x])):=
 ⟨x,0,z31,zb,0,z32,zb,zb,rfl,zvOk,rfl,rfl,fun h=>absurd h hx⟩
theorem ChS.first{k:Int}{t:List Int}(h:MayV e k t ad)(hf:0<=f/\f<8/\memB t f.toNat=true):ChS t f t ad k zb:=
 ⟨h.tree,h.mem,h.k1,fun _ _ h=>.inl h,fun i _ e=>by rw[<-e]at hf;exact hf.2.2⟩
theorem ChS.last{k k2 x:Int}{t t2:List Int}{ad2:List Bool}(h:ChS t f t2 ad2 k2 go)(h0:MayV e k t ad)(hx:x = -1\/AdmOk t2 ad2 8 x)(hk:¬x<k2):ApK e k f t ad k2 t2 ad2 go:=
 ⟨h0,may_of h0.e0 h0.e1 h.tree h.k1 hx o_,h.keep,h.frm⟩
theorem apply_f(e k f:Int)(t ch:List Int)(ad:List Bool)(A:Option Addr)(n c:Nat)(l:List Int)(w:World)(h:VwOk t ad ch)(hr:OpsR w A n c l)(hn:n<=1000000): Calls prog 94 #[.agg (vw e t ad k ch).toArray,.int .i64 f,.slice A n c] w fun r w'=>ApRF e k t ch ad f n r/\Bl w w':=by
 obtain⟨w1,hW⟩:=ex_ ((((w.alloc (.cells (vw e t ad k ch).toArray 45)).alloc (.cells zvw.toArray 45)).alloc (.cells (bools zb).toArray 41)).alloc (.cells (bools zb).toArray 41));have HC:Hid (Cel w1 w.heap.size 45 (vw e t ad k ch)):=by rw[hW];exact(((Cel.new _ rfl rfl).alloc _).alloc _).alloc _
 have HS:Hid (ApS w w1):=by rw[hW];exact⟨((Cel.new zvw s_ rfl).alloc _).alloc _,(Cel.new (bools zb) s_ rfl).alloc _,Cel.new (bools zb) s_ rfl,bal (bal (bal b0_))⟩
 have hsz1:w.heap.size+4<=w1.heap.size:=by rw[hW];simp
 have HR:Hid (OpsR w1 A n c l):=hr.below HS.out.below;have HV:=hd_ h;have HR0:=hd_ hr;have HW:=hd_ hW;clear hW h hr;go_enter func94,ntmps94
 go_wp2_with ((change wpList _ _ _ _ _ ((((w.alloc (.cells (vw e t ad k ch).toArray 45)).alloc (.cells zvw.toArray 45)).alloc (.cells (bools zb).toArray 41)).alloc (.cells (bools zb).toArray 41)));rw[<-HW.out];refine wpList_load_mid rfl 45 (.tmp 3) rr w.heap.size 0 rr (vw e t ad k ch) _ HC.out.all underlying45 rfl (vw_hi HV.out) ?_);refine(vIs_f e k t ch ad w1 HV.out).mono ?_;rintro _ w2 ⟨⟨q,rfl,hmay⟩,hb2⟩;have HMAY:=hd_ hmay;clear hmay;have hb12:=hb2.size;have HC2:=hd_ (HC.out.below hb2 HC.out.lt);have HS2:=hd_ (HS.out.bel hb2);have HR2:=hd_ (HR.out.below hb2);clear hb2
 cases q with
 | false=>
  go_wp2_with fail;refine pr_ 0 7 (bt 7 0) fun w1d hw1d=>?_;refine mG ?_;have hH:Hid (ApS w w1d):=by rw[<-hw1d];exact(HS2).out.drew
  clear hw1d;refine wpAny_of_last (S:=fun w'=>Hid (ApS w w')) (ds:=[5,6]) _ _ _ _ ?_;refine ts_ 0 3 4 (bt 7 7) hH ?_;refine mD ?_;repeat (first|(refine tk_ 45 (.tmp 6) (w.heap.size+1) 0 (zvw) (fun _ h=>h.out.c6.all) underlying45 rfl hiz45 ?_)|(refine tk_ 41 (.tmp 7) (w.heap.size+1+1) 0 (bools zb) (fun _ h=>h.out.c7.all) underlying41 rfl hiz41 ?_)|(refine tk_ 41 (.tmp 8) (w.heap.size+1+1+1) 0 (bools zb) (fun _ h=>h.out.c8.all) underlying41 rfl hiz41 ?_)|(refine uA ?_)|(refine mB0 ?_))
  refine takes_nil ?_;refine one_ (i:=3) (N:=none) (bt 7 15) rfl rfl kk dd (fun K hK=>?_);refine step_store_cel rfl 45 (.tmp 6) (.tmp 29) rr (w.heap.size+1) 0 45 [] zvw [] zvw rr rr (by simpa using hH.out.c6) rfl rfl hiz45 zvw_all ?_;intro wA hA hgA;refine hK.out _ _ (hH.out.keep6 (by simpa using hA) hgA) (fun hH=>?_);clear hK K hA hgA;refine one_ (i:=4) (N:=none) (bt 7 31) rfl rfl kk dd (fun K hK=>?_);refine step_store_cel rfl 41 (.tmp 7) (.tmp 30) rr (w.heap.size+1+1) 0 41 [] (bools zb) [] (bools zb) rr rr (by simpa using hH.out.c7) rfl rfl hiz41 zb_all ?_;intro wB hB hgB;refine hK.out _ _ (hH.out.keep7 (by simpa using hB) hgB) (fun hH=>?_);clear hK K hB hgB;refine tl_ 5 ?_;refine mF ?_;have HH:=hH;clear hH;go_wp2_with (refine store_cel rfl 41 (.tmp 8) (.tmp 31) rr (w.heap.size+1+1+1) 0 41 [] (bools zb) [] (bools zb) rr rr (by simpa using HH.out.c8) rfl rfl hiz41 zb_all ?_;intro wC hC hgC);have HC:=hd_ (HH.out.keep8 (by simpa using hC) hgC);have h6:=HC.out.l6;have h7:=HC.out.l7;have h8:=HC.out.l8;refine bodyPost_ret (v:=.tuple #[.agg zvw.toArray,.agg (bools zb).toArray,.agg (bools zb).toArray,.int .i64 1]) (by simp[results,results94,asAddr,Act.put,h6,h7,h8]) rfl ⟨apFailF dd,HC.out.below⟩
 | true=>
  by_cases hn4:n<=4
  · go_wp2_with fail;refine(hasOps_any A n c l w2 HR2.out o_).mono ?_;rintro _ w3 ⟨⟨q,rfl⟩,hb3⟩;have hb13:=hb3.size;have HC3:=hd_ (HC2.out.below hb3 HC2.out.lt);have HS3:=hd_ (HS2.out.bel hb3);have HR3:=hd_ (HR2.out.below hb3);clear hb3
    cases q with
    | true=>
     go_wp2_with fail;refine pr_ 0 7 (bt 7 0) fun w1d hw1d=>?_;refine mG ?_;(have hH:Hid (ApS w w1d):=by rw[<-hw1d];exact(HS3).out.drew);clear hw1d;refine wpAny_of_last (S:=fun w'=>Hid (ApS w w')) (ds:=[5,6]) _ _ _ _ ?_;refine ts_ 0 3 4 (bt 7 7) hH ?_;refine mD ?_;(repeat (first|(refine tk_ 45 (.tmp 6) (w.heap.size+1) 0 (zvw) (fun _ h=>h.out.c6.all) underlying45 rfl hiz45 ?_)|(refine tk_ 41 (.tmp 7) (w.heap.size+1+1) 0 (bools zb) (fun _ h=>h.out.c7.all) underlying41 rfl hiz41 ?_)|(refine tk_ 41 (.tmp 8) (w.heap.size+1+1+1) 0 (bools zb) (fun _ h=>h.out.c8.all) underlying41 rfl hiz41 ?_)|(refine uA ?_)|(refine mB0 ?_)));refine takes_nil ?_;refine one_ (i:=3) (N:=none) (bt 7 15) rfl rfl kk dd (fun K hK=>?_);refine step_store_cel rfl 45 (.tmp 6) (.tmp 29) rr (w.heap.size+1) 0 45 [] zvw [] zvw rr rr (by simpa using hH.out.c6) rfl rfl hiz45 zvw_all ?_;intro wA hA hgA;refine hK.out _ _ (hH.out.keep6 (by simpa using hA) hgA) (fun hH=>?_);clear hK K hA hgA;refine one_ (i:=4) (N:=none) (bt 7 31) rfl rfl kk dd (fun K hK=>?_);refine step_store_cel rfl 41 (.tmp 7) (.tmp 30) rr (w.heap.size+1+1) 0 41 [] (bools zb) [] (bools zb) rr rr (by simpa using hH.out.c7) rfl rfl hiz41 zb_all ?_;intro wB hB hgB;refine hK.out _ _ (hH.out.keep7 (by simpa using hB) hgB) (fun hH=>?_);clear hK K hB hgB;refine tl_ 5 ?_;refine mF ?_;have HH:=hH;clear hH;go_wp2_with (refine store_cel rfl 41 (.tmp 8) (.tmp 31) rr (w.heap.size+1+1+1) 0 41 [] (bools zb) [] (bools zb) rr rr (by simpa using HH.out.c8) rfl rfl hiz41 zb_all ?_;intro wC hC hgC);have HC:=hd_ (HH.out.keep8 (by simpa using hC) hgC);have h6:=HC.out.l6;have h7:=HC.out.l7;have h8:=HC.out.l8;refine bodyPost_ret (v:=.tuple #[.agg zvw.toArray,.agg (bools zb).toArray,.agg (bools zb).toArray,.int .i64 1]) (by simp[results,results94,asAddr,Act.put,h6,h7,h8]) rfl ⟨apFailF dd,HC.out.below⟩
    | false=>
     go_wp2_with (refine wpList_load_mid rfl 45 (.tmp 3) rr w.heap.size 0 rr (vw e t ad k ch) _ HC3.out.all underlying45 rfl (vw_hi HV.out) ?_);refine(isMember_f e k f t ch ad w3 HV.out).mono ?_;rintro _ w4 ⟨⟨q,rfl,hq,-⟩,hb4⟩;have hb14:=hb4.size;have HC4:=hd_ (HC3.out.below hb4 HC3.out.lt);have HS4:=hd_ (HS3.out.bel hb4);have HR4:=hd_ (HR3.out.below hb4);clear hb4
     cases q with
     | false=>
      go_wp2_with fail;refine pr_ 0 7 (bt 7 0) fun w1d hw1d=>?_;refine mG ?_;(have hH:Hid (ApS w w1d):=by rw[<-hw1d];exact(HS4).out.drew);clear hw1d;refine wpAny_of_last (S:=fun w'=>Hid (ApS w w')) (ds:=[5,6]) _ _ _ _ ?_;refine ts_ 0 3 4 (bt 7 7) hH ?_;refine mD ?_;(repeat (first|(refine tk_ 45 (.tmp 6) (w.heap.size+1) 0 (zvw) (fun _ h=>h.out.c6.all) underlying45 rfl hiz45 ?_)|(refine tk_ 41 (.tmp 7) (w.heap.size+1+1) 0 (bools zb) (fun _ h=>h.out.c7.all) underlying41 rfl hiz41 ?_)|(refine tk_ 41 (.tmp 8) (w.heap.size+1+1+1) 0 (bools zb) (fun _ h=>h.out.c8.all) underlying41 rfl hiz41 ?_)|(refine uA ?_)|(refine mB0 ?_)));refine takes_nil ?_;refine one_ (i:=3) (N:=none) (bt 7 15) rfl rfl kk dd (fun K hK=>?_);refine step_store_cel rfl 45 (.tmp 6) (.tmp 37) rr (w.heap.size+1) 0 45 [] zvw [] zvw rr rr (by simpa using hH.out.c6) rfl rfl hiz45 zvw_all ?_;intro wA hA hgA;refine hK.out _ _ (hH.out.keep6 (by simpa using hA) hgA) (fun hH=>?_);clear hK K hA hgA;refine one_ (i:=4) (N:=none) (bt 7 31) rfl rfl kk dd (fun K hK=>?_);refine step_store_cel rfl 41 (.tmp 7) (.tmp 38) rr (w.heap.size+1+1) 0 41 [] (bools zb) [] (bools zb) rr rr (by simpa using hH.out.c7) rfl rfl hiz41 zb_all ?_;intro wB hB hgB;refine hK.out _ _ (hH.out.keep7 (by simpa using hB) hgB) (fun hH=>?_);clear hK K hB hgB;refine tl_ 5 ?_;refine mF ?_;have HH:=hH;clear hH;go_wp2_with (refine store_cel rfl 41 (.tmp 8) (.tmp 39) rr (w.heap.size+1+1+1) 0 41 [] (bools zb) [] (bools zb) rr rr (by simpa using HH.out.c8) rfl rfl hiz41 zb_all ?_;intro wC hC hgC);have HC:=hd_ (HH.out.keep8 (by simpa using hC) hgC);have h6:=HC.out.l6;have h7:=HC.out.l7;have h8:=HC.out.l8;refine bodyPost_ret (v:=.tuple #[.agg zvw.toArray,.agg (bools zb).toArray,.agg (bools zb).toArray,.int .i64 6]) (by simp[results,results94,asAddr,Act.put,h6,h7,h8]) rfl ⟨apFailF dd,HC.out.below⟩
     | true=>
      have hf:=hq rfl;have HF:Hid (0<=f/\f<8):=⟨hf.1,hf.2.1⟩;have HM0:Hid (MayV e k t ad):=HMAY.out s_;have HF0:=hd_ (ChS.first HM0.out hf);clear hq hf;(have hw4:w.heap.size+4<=w4.heap.size:=by omega);have hbld:=run_build224 e k f t ch ad HV.out;have HBld:=hd_ (hbld w4);clear hbld;go_wp2_with (first|(refine wpList_load_mid rfl 45 (.tmp 3) rr w.heap.size 0 rr (vw e t ad k ch) _ HC4.out.all underlying45 rfl (vw_hi HV.out) ?_)|(refine wpList_build rfl 224 _ rr #[(0,.agg (vw e t ad k ch).toArray),(1,.int .i64 f)] (by simp only[List.map_toArray,List.map_cons,List.map_nil];rfl) _ HBld.out ?_));obtain⟨g,hg⟩:∃g,w4.heap.size=g:=⟨_,rfl⟩;obtain⟨w5,hW5⟩:=ex_ (w4.alloc (.cells (chg e t ad k ch f zb zb).toArray 224));(have HG5:Hid (Cel w5 g 224 (chg e t ad k ch f zb zb)):=by rw[hW5];exact Cel.new _ hg rfl);(have HS5:Hid (ApS w w5):=by rw[hW5];exact HS4.out.bel b0_);(have hg4:w.heap.size+4<=g:=by omega);have HW5:=hd_ hW5;clear hW5;rw[hg];(go_loopw [46] (fun v wr=>∃(i:Nat) (t2:List Int) (ad2:List Bool) (k2:Int) (ai go:List Bool),v=.int .i64 i/\i<=n/\Hid (ChS t f t2 ad2 k2 go)/\Hid (ChOk t2 ad2 ch ai go)/\Hid (Cel wr g 224 (chg e t2 ad2 k2 ch f ai go))/\Hid (ApS w wr)) (fun v _=>n-(intOf v).toNat));(case atStart=>rw[<-HW5.out];exact⟨0,t,ad,k,zb,zb,rfl,Nat.zero_le _,HF0,⟨HV.out,rfl,rfl⟩,HG5,HS5⟩);case round=>
       clear HG5 HS5 HW5;obtain⟨i,t2,ad2,k2,ai,go,rfl,hi,HCS,HO,HG,HSr⟩:=hrel;by_cases hlt:i<n;(· obtain⟨b,o,x0,x1,x2,x3,x4,rfl,_,d0,d1,d2,d3,d4⟩:=(HR0.out.below HSr.out.below).at i hlt;have hcap:=HR0.out.cap;obtain⟨wA,hWA⟩:=ex_ (wr.alloc (.cells #[.int .i64 x0,.int .i64 x1,.int .i64 x2,.int .i64 x3,.int .i64 x4] 55));(have HGA:Hid (Cel wA g 224 (chg e t2 ad2 k2 ch f ai go)):=by rw[hWA];exact HG.out.alloc _);(have HSA:Hid (ApS w wA):=by rw[hWA];exact HSr.out.bel b0_);have HWA:=hd_ hWA;clear hWA;go_wp2_with fail;rw[<-HWA.out];refine(chOp_f g e k2 f x0 x1 x2 x3 x4 t t2 ch ad2 ai go wA HO.out HCS.out HGA.out).mono ?_;rintro _ wB ⟨⟨x,t3,ad3,k3,ai3,go3,rfl,ho3,hg3,hs3⟩,hb3⟩;have HS3':=hd_ hs3;clear hs3;have HO3:=hd_ ho3;have HG3:=hd_ hg3;have HSB:=hd_ (HSA.out.gr hb3 hg4);clear ho3 hg3 hb3 d0 d1 d2 d3 d4;by_cases hx0:x=0;(· subst hx0;go_wp2_with fail;go_roundw;(case rel=>exact⟨i+1,t3,ad3,k3,ai3,go3,by go_num,by omega,HS3',HO3,HG3,HSB⟩);case measure=>simp[intOf];omega);go_wp2_with fail;have HX0:=hd_ hx0;clear hx0;refine pr_ 0 8 (bt 8 0) fun w1d hw1d=>?_;refine mG ?_;(have hH:Hid (ApS w w1d):=by rw[<-hw1d];exact(HSB).out.drew);clear hw1d;refine wpAny_of_last (S:=fun w'=>Hid (ApS w w')) (ds:=[6,7]) _ _ _ _ ?_;refine ts_ 0 3 5 (bt 8 7) hH ?_;refine mD ?_;(repeat (first|(refine tk_ 45 (.tmp 6) (w.heap.size+1) 0 (zvw) (fun _ h=>h.out.c6.all) underlying45 rfl hiz45 ?_)|(refine tk_ 41 (.tmp 7) (w.heap.size+1+1) 0 (bools zb) (fun _ h=>h.out.c7.all) underlying41 rfl hiz41 ?_)|(refine tk_ 41 (.tmp 8) (w.heap.size+1+1+1) 0 (bools zb) (fun _ h=>h.out.c8.all) underlying41 rfl hiz41 ?_)|(refine uA ?_)|(refine mB0 ?_)));refine takes_nil ?_;refine ps_ 3 1 4 (bt 8 15) ?_;refine mT1 ?_;refine one_ (i:=4) (N:=none) (bt 8 31) rfl rfl kk dd (fun K hK=>?_);refine step_store_cel rfl 45 (.tmp 6) (.tmp 55) rr (w.heap.size+1) 0 45 [] zvw [] zvw rr rr (by simpa using hH.out.c6) rfl rfl hiz45 zvw_all ?_;intro wA hA hgA;refine hK.out _ _ (hH.out.keep6 (by simpa using hA) hgA) (fun hH=>?_);clear hK K hA hgA;refine one_ (i:=5) (N:=none) (bt 8 63) rfl rfl kk dd (fun K hK=>?_);refine step_store_cel rfl 41 (.tmp 7) (.tmp 56) rr (w.heap.size+1+1) 0 41 [] (bools zb) [] (bools zb) rr rr (by simpa using hH.out.c7) rfl rfl hiz41 zb_all ?_;intro wB hB hgB;refine hK.out _ _ (hH.out.keep7 (by simpa using hB) hgB) (fun hH=>?_);clear hK K hB hgB;refine tl_ 6 ?_;refine mF ?_;have HH:=hH;clear hH;go_wp2_with (refine store_cel rfl 41 (.tmp 8) (.tmp 57) rr (w.heap.size+1+1+1) 0 41 [] (bools zb) [] (bools zb) rr rr (by simpa using HH.out.c8) rfl rfl hiz41 zb_all ?_;intro wC hC hgC);have HC:=hd_ (HH.out.keep8 (by simpa using hC) hgC);have h6:=HC.out.l6;have h7:=HC.out.l7;have h8:=HC.out.l8;refine bodyPost_ret (v:=.tuple #[.agg zvw.toArray,.agg (bools zb).toArray,.agg (bools zb).toArray,.int .i64 x]) (by simp[results,results94,asAddr,Act.put,h6,h7,h8]) rfl ⟨apFailF (by exact HX0.out),HC.out.below⟩);go_wp2_with fail;refine pr_ 0 11 (bt 11 0) fun w1d hw1d=>?_;refine mG ?_;(have hH:w1d.cell? ⟨g,40,none⟩=some (.int .i64 k2)/\Hid (ApS w w1d)/\Hid (Cel w1d g 224 (chg e t2 ad2 k2 ch f ai go)):=by rw[<-hw1d];exact⟨(HG.out.cell 40).trans (chg_k HO.out),HSr.out.drew,HG.out⟩);clear hw1d;refine wpAny_of_last (S:=fun w'=>w'.cell? ⟨g,40,none⟩=some (.int .i64 k2)/\Hid (ApS w w')/\Hid (Cel w' g 224 (chg e t2 ad2 k2 ch f ai go))) (ds:=[10]) _ _ _ _ ?_;refine ts_ 0 4 7 (bt 11 15) hH ?_;refine mD ?_;(repeat (first|(refine tk_ 45 (.tmp 62) g 0 (vw e t2 ad2 k2 ch) (fun _ h=>chg_view (h.2.2.out)) underlying45 rfl (vw_hi HO.out.vw) ?_)|(refine uA ?_)|(refine mB3 ?_)));refine takes_nil ?_;refine ts_ 5 5 2 (bt 11 1007) hH ?_;refine mD ?_;(repeat (first|(refine tk_ 45 (.tmp 62) g 0 (vw e t2 ad2 k2 ch) (fun _ h=>chg_view (h.2.2.out)) underlying45 rfl (vw_hi HO.out.vw) ?_)|(refine uA ?_)|(refine mB3 ?_)));refine takes_nil ?_;refine one_ (i:=4) (N:=some 64) (bt 11 1023) rfl rfl kk dd (fun K hK=>?_);refine goes_ func151 kk rfl #[.agg (vw e t2 ad2 k2 ch).toArray] rr rfl rfl mL ?_;refine(admins_f e k2 t2 ch ad2 _ HO.out.vw).mono ?_;rintro _ wq ⟨⟨xa,rfl,hadm⟩,hbq⟩;have HAD:=hd_ hadm;clear hadm;refine⟨_,rfl,?_⟩;refine hK.out _ _ ⟨(hbq.cell hH.2.2.out.lt).trans hH.1,hH.2.1.out.bel hbq,hH.2.2.out.below hbq hH.2.2.out.lt⟩ (fun hH=>?_);clear hK K hbq;refine mN ?_;refine tl_ 10 ?_;refine mF ?_;have HSq:=hH.2.1;have HGq:=hH.2.2;clear hH;by_cases hlk:xa<k2;(· go_wp2_with fail;refine pr_ 0 7 (bt 7 0) fun w1d hw1d=>?_;refine mG ?_;(have hH:Hid (ApS w w1d):=by rw[<-hw1d];exact(HSq).out.drew);clear hw1d;refine wpAny_of_last (S:=fun w'=>Hid (ApS w w')) (ds:=[5,6]) _ _ _ _ ?_;refine ts_ 0 3 4 (bt 7 7) hH ?_;refine mD ?_;(repeat (first|(refine tk_ 45 (.tmp 6) (w.heap.size+1) 0 (zvw) (fun _ h=>h.out.c6.all) underlying45 rfl hiz45 ?_)|(refine tk_ 41 (.tmp 7) (w.heap.size+1+1) 0 (bools zb) (fun _ h=>h.out.c7.all) underlying41 rfl hiz41 ?_)|(refine tk_ 41 (.tmp 8) (w.heap.size+1+1+1) 0 (bools zb) (fun _ h=>h.out.c8.all) underlying41 rfl hiz41 ?_)|(refine uA ?_)|(refine mB0 ?_)));refine takes_nil ?_;refine one_ (i:=3) (N:=none) (bt 7 15) rfl rfl kk dd (fun K hK=>?_);refine step_store_cel rfl 45 (.tmp 6) (.tmp 71) rr (w.heap.size+1) 0 45 [] zvw [] zvw rr rr (by simpa using hH.out.c6) rfl rfl hiz45 zvw_all ?_;intro wA hA hgA;refine hK.out _ _ (hH.out.keep6 (by simpa using hA) hgA) (fun hH=>?_);clear hK K hA hgA;refine one_ (i:=4) (N:=none) (bt 7 31) rfl rfl kk dd (fun K hK=>?_);refine step_store_cel rfl 41 (.tmp 7) (.tmp 72) rr (w.heap.size+1+1) 0 41 [] (bools zb) [] (bools zb) rr rr (by simpa using hH.out.c7) rfl rfl hiz41 zb_all ?_;intro wB hB hgB;refine hK.out _ _ (hH.out.keep7 (by simpa using hB) hgB) (fun hH=>?_);clear hK K hB hgB;refine tl_ 5 ?_;refine mF ?_;have HH:=hH;clear hH;go_wp2_with (refine store_cel rfl 41 (.tmp 8) (.tmp 73) rr (w.heap.size+1+1+1) 0 41 [] (bools zb) [] (bools zb) rr rr (by simpa using HH.out.c8) rfl rfl hiz41 zb_all ?_;intro wC hC hgC);have HC:=hd_ (HH.out.keep8 (by simpa using hC) hgC);have h6:=HC.out.l6;have h7:=HC.out.l7;have h8:=HC.out.l8;refine bodyPost_ret (v:=.tuple #[.agg zvw.toArray,.agg (bools zb).toArray,.agg (bools zb).toArray,.int .i64 7]) (by simp[results,results94,asAddr,Act.put,h6,h7,h8]) rfl ⟨apFailF dd,HC.out.below⟩);have HAK:Hid (ApK e k f t ad k2 t2 ad2 go):=HCS.out.last HM0.out HAD.out hlk;go_wp2_with fail;refine pr_ 0 16 (bt 16 0) fun w1d hw1d=>?_;refine mG ?_;(have hH:Hid (Cel w1d g 224 (chg e t2 ad2 k2 ch f ai go)/\Ap16 w w1d):=by rw[<-hw1d];exact⟨HGq.out,HSq.out.ap16⟩);clear hw1d;refine wpAny_of_last (S:=fun w'=>Hid (Cel w' g 224 (chg e t2 ad2 k2 ch f ai go)/\Ap16 w w')) (ds:=[15]) _ _ _ _ ?_;refine ts_ 0 12 4 (bt 16 4095) hH ?_;refine mD ?_;(repeat (first|(refine tk_ 45 (.tmp 76) g 0 (vw e t2 ad2 k2 ch) (fun _ h=>chg_view (h.out.1)) underlying45 rfl (vw_hi HO.out.vw) ?_)|(refine tk_ 41 (.tmp 80) g 74 (bools ai) (fun _ h=>chg_airange h.out.1 HO.out) underlying41 rfl (hi41 HO.out.ai) ?_)|(refine tk_ 41 (.tmp 84) g 82 (bools go) (fun _ h=>chg_gorange h.out.1 HO.out) underlying41 rfl (hi41 HO.out.go) ?_)|(refine uA ?_)|(refine mB0 ?_)));refine takes_nil ?_;refine one_ (i:=12) (N:=none) (bt 16 8191) rfl rfl kk dd (fun K hK=>?_);obtain⟨v6,hl6,hc6⟩:=hH.out.2.c6;refine step_store_cel rfl 45 (.tmp 6) (.tmp 77) rr (w.heap.size+1) 0 45 [] v6 [] (vw e t2 ad2 k2 ch) rr rr (by simpa using hc6) rfl (by rw[hl6,vw_len HO.out.vw]) (vw_hi HO.out.vw) (all_oneCell_toArray (vw_all _ _ _ _ _)) ?_;intro wA hA hgA;(have HA6:Hid (Cel wA (w.heap.size+1) 45 (vw e t2 ad2 k2 ch)):=by show Cel _ _ _ _;simpa using hA);refine hK.out _ _ ⟨hH.out.1.grown hgA s1_,hH.out.2.gr6 hgA ⟨_,vw_len HO.out.vw,HA6.out⟩⟩ (fun hH=>?_);clear hK K hA hgA hc6 hl6;refine one_ (i:=13) (N:=none) (bt 16 16383) rfl rfl kk dd (fun K hK=>?_);obtain⟨v7,hl7,hc7⟩:=hH.out.2.c7;refine step_store_cel rfl 41 (.tmp 7) (.tmp 81) rr (w.heap.size+1+1) 0 41 [] v7 [] (bools ai) rr rr (by simpa using hc7) rfl (by rw[hl7,bools_len,HO.out.ai]) (hi41 HO.out.ai) (all_bools _) ?_;intro wB hB hgB;have HB6:Hid (Cel wB (w.heap.size+1) 45 (vw e t2 ad2 k2 ch)):=HA6.out.grown hgB (by simp;try omega);(have HB7:Hid (Cel wB (w.heap.size+1+1) 41 (bools ai)):=by show Cel _ _ _ _;simpa using hB);refine hK.out _ _ ⟨hH.out.1.grown hgB s1_,hH.out.2.gr7 hgB ⟨_,by rw[bools_len,HO.out.ai],HB7.out⟩⟩ (fun hH=>?_);clear hK K hB hgB hc7 hl7;refine one_ (i:=14) (N:=none) (bt 16 32767) rfl rfl kk dd (fun K hK=>?_);obtain⟨v8,hl8,hc8⟩:=hH.out.2.c8;refine step_store_cel rfl 41 (.tmp 8) (.tmp 85) rr (w.heap.size+1+1+1) 0 41 [] v8 [] (bools go) rr rr (by simpa using hc8) rfl (by rw[hl8,bools_len,HO.out.go]) (hi41 HO.out.go) (all_bools _) ?_;intro wC hC hgC;have HZ:Hid (Cel wC g 224 (chg e t2 ad2 k2 ch f ai go)/\Cel wC (w.heap.size+1) 45 (vw e t2 ad2 k2 ch)/\Cel wC (w.heap.size+1+1) 41 (bools ai)/\Cel wC (w.heap.size+1+1+1) 41 (bools go)/\Bl w wC):=⟨hH.out.1.grown hgC s1_,HB6.out.grown hgC (by simp;try omega),HB7.out.grown hgC (by simp;try omega),by simpa using hC,hH.out.2.below.grown hgC hH.out.2.below.size (fun k hk=>by cases hk;omega)⟩;refine hK.out _ _ ⟨HZ.out.1,hH.out.2.gr8 hgC ⟨_,by rw[bools_len,HO.out.go],HZ.out.2.2.2.1⟩⟩ (fun hH=>?_);clear hK K hC hgC hc8 hl8;refine tl_ 15 ?_;refine mF ?_;have hSz:=HZ;go_wp2_with fail;have h6:=hSz.out.2.1.vload HO.out.vw;have h7:=hSz.out.2.2.1.bload HO.out.ai;have h8:=hSz.out.2.2.2.1.bload HO.out.go;refine bodyPost_ret (v:=.tuple #[.agg (vw e t2 ad2 k2 ch).toArray,.agg (bools ai).toArray,.agg (bools go).toArray,.int .i64 0]) (by simp[results,results94,asAddr,Act.put,h6,h7,h8]) rfl ⟨⟨0,e,t2,ad2,k2,ch,ai,go,rfl,HO.out.vw,HO.out.ai,HO.out.go,fun _=>⟨rfl,rfl,hn4,HF.out,HAK.out⟩⟩,hSz.out.2.2.2.2⟩
  go_wp2_with fail;refine pr_ 0 7 (bt 7 0) fun w1d hw1d=>?_;refine mG ?_;have hH:Hid (ApS w w1d):=by rw[<-hw1d];exact(HS2).out.drew
  clear hw1d;refine wpAny_of_last (S:=fun w'=>Hid (ApS w w')) (ds:=[5,6]) _ _ _ _ ?_;refine ts_ 0 3 4 (bt 7 7) hH ?_;refine mD ?_;repeat (first|(refine tk_ 45 (.tmp 6) (w.heap.size+1) 0 (zvw) (fun _ h=>h.out.c6.all) underlying45 rfl hiz45 ?_)|(refine tk_ 41 (.tmp 7) (w.heap.size+1+1) 0 (bools zb) (fun _ h=>h.out.c7.all) underlying41 rfl hiz41 ?_)|(refine tk_ 41 (.tmp 8) (w.heap.size+1+1+1) 0 (bools zb) (fun _ h=>h.out.c8.all) underlying41 rfl hiz41 ?_)|(refine uA ?_)|(refine mB0 ?_))
  refine takes_nil ?_;refine one_ (i:=3) (N:=none) (bt 7 15) rfl rfl kk dd (fun K hK=>?_);refine step_store_cel rfl 45 (.tmp 6) (.tmp 29) rr (w.heap.size+1) 0 45 [] zvw [] zvw rr rr (by simpa using hH.out.c6) rfl rfl hiz45 zvw_all ?_;intro wA hA hgA;refine hK.out _ _ (hH.out.keep6 (by simpa using hA) hgA) (fun hH=>?_);clear hK K hA hgA;refine one_ (i:=4) (N:=none) (bt 7 31) rfl rfl kk dd (fun K hK=>?_);refine step_store_cel rfl 41 (.tmp 7) (.tmp 30) rr (w.heap.size+1+1) 0 41 [] (bools zb) [] (bools zb) rr rr (by simpa using hH.out.c7) rfl rfl hiz41 zb_all ?_;intro wB hB hgB;refine hK.out _ _ (hH.out.keep7 (by simpa using hB) hgB) (fun hH=>?_);clear hK K hB hgB;refine tl_ 5 ?_;refine mF ?_;have HH:=hH;clear hH;go_wp2_with (refine store_cel rfl 41 (.tmp 8) (.tmp 31) rr (w.heap.size+1+1+1) 0 41 [] (bools zb) [] (bools zb) rr rr (by simpa using HH.out.c8) rfl rfl hiz41 zb_all ?_;intro wC hC hgC);have HC:=hd_ (HH.out.keep8 (by simpa using hC) hgC);have h6:=HC.out.l6;have h7:=HC.out.l7;have h8:=HC.out.l8;refine bodyPost_ret (v:=.tuple #[.agg zvw.toArray,.agg (bools zb).toArray,.agg (bools zb).toArray,.int .i64 1]) (by simp[results,results94,asAddr,Act.put,h6,h7,h8]) rfl ⟨apFailF dd,HC.out.below⟩
theorem apply_any(e k f:Int)(t ch:List Int)(ad:List Bool)(A:Option Addr)(n c:Nat)(l:List Int)(w:World)(h:VwOk t ad ch)(hr:OpsR w A n c l)(hn:n<=1000000):Calls prog 94 #[.agg (vw e t ad k ch).toArray,.int .i64 f,.slice A n c] w fun r w'=>ApR e ch f n r/\Bl w w':=
 (apply_f e k f t ch ad A n c l w h hr hn).mono fun r w' h1=>⟨by obtain⟨x,e2,t2,ad2,k2,ch2,ai,go,a1,a2,a3,a4,a5⟩:=h1.1;exact⟨x,e2,t2,ad2,k2,ch2,ai,go,a1,a2,a3,a4,fun hx=>⟨(a5 hx).1,(a5 hx).2.1,(a5 hx).2.2.1,(a5 hx).2.2.2.1⟩⟩,h1.2⟩
end Go.Proofs.YtppjnahcnofokaaGreat.T
namespace Go.Proofs.YtppjnahcnofokaaGreat.T
open Go.RowKit Go.Proofs.YtppjnahcnofokaaGreatW.PrintLast
open Go.Proofs.Tryz
variable{k:IntKind}{a:Act}{b i n B base m fuel D B':Nat}{l ch t0:List Int}{w w' w1 w2:World}{t:TypeId}{P:Program}{cs xs vs l3:List Value}{A A':Option Addr}{o oi:Oper}{e s f st fl:Int}{ops:Array Oper}{rest l0:List Oper}{v:Value}{r:Option Nat}{rs rs2:List (Option Addr×Nat×Nat×List Int)}{E:Prop}{ad ai go:List Bool}{N:Act->Prop}{place:Nat->Option (Nat×Nat)}{bad:Bool}{es es':List (Int×List Int)}{T:List TypeId}
theorem isAdmin_any(e k n:Int)(t ch:List Int)(ad:List Bool)(w:World)(h:VwOk t ad ch):Calls prog 95 #[.agg (vw e t ad k ch).toArray,.int .i64 n] w fun r w'=>MemOk n r/\Bl w w':=by
 obtain⟨w1,hW⟩:=ex_ (w.alloc (.cells (vw e t ad k ch).toArray 45));have HC:Hid (Cel w1 w.heap.size 45 (vw e t ad k ch)):=by rw[hW];exact Cel.new _ rfl rfl
 have HV:=hd_ h;have HW:=hd_ hW;clear hW h;go_enter func95,ntmps95
 by_cases h0:0<=n
 · by_cases h8:n<8
   · obtain⟨m,rfl⟩:=Int.eq_ofNat_of_zero_le h0;(have hm:m<8:=by omega);(have c0:(w.alloc (.cells (vw e t ad k ch).toArray 45)).cell? ⟨w.heap.size,32+m,none⟩=some (.bool (ad.getD m false)):=by rw[<-HW.out,HC.out.cell];exact vw_admin HV.out m hm);go_wp2_with fail
     all_goals
      go_ret
      exact⟨⟨_,rfl,fun _=>⟨h0,h8⟩⟩,b0_⟩
   go_wp2;go_ret;exact⟨⟨_,rfl,by simp⟩,b0_⟩
 go_wp2;go_ret;exact⟨⟨_,rfl,by simp⟩,b0_⟩
theorem paper_any(e k f:Int)(t ch:List Int)(ad:List Bool)(A:Option Addr)(n c:Nat)(l:List Int)(w:World)(h:VwOk t ad ch)(hr:OpsR w A n c l)(hn:n<=1000):Calls prog 63 #[.agg (vw e t ad k ch).toArray,.int .i64 f,.slice A n c] w fun r w'=>IsH r/\Bl w w':=by
 obtain⟨w1,hW⟩:=ex_ ((w.alloc (.cells (vw e t ad k ch).toArray 45)).alloc (.cells (ints .u8 zl).toArray 43));have HC:Hid (Cel w1 w.heap.size 45 (vw e t ad k ch)):=by rw[hW];exact(Cel.new _ rfl rfl).alloc _
 have HZ:Hid (Row w1 (w.heap.size+1) .u8 43 32):=by rw[hW];exact Row.new zl _ rfl s_
 have Hb:Hid (Bl w w1):=by rw[hW];exact bal b0_
 have HV:=hd_ h;have HR:Hid (OpsR w1 A n c l):=hr.below Hb.out;have HW:=hd_ hW;clear hW h hr;go_enter func63,ntmps63
 go_wp2_with ((change wpList _ _ _ _ _ ((w.alloc (.cells (vw e t ad k ch).toArray 45)).alloc (.cells (ints .u8 zl).toArray 43)));rw[<-HW.out];refine wpList_load_mid rfl 45 (.tmp 3) rr w.heap.size 0 rr (vw e t ad k ch) _ HC.out.all underlying45 rfl (vw_hi HV.out) ?_);refine(vHash_any e k t ch ad w1 HV.out).mono ?_;rintro _ w2 ⟨⟨lh,hlh,rfl⟩,hb2⟩;have HR2:=hd_ (HR.out.below hb2);have HB2:=hd_ hb2;have HLh:=hd_ hlh;clear hb2 hlh;go_wp2_with fail;refine(num_any f w2).mono ?_;rintro _ w3 ⟨⟨A3,c3,l3,rfl,ho3,hl3⟩,hb3⟩;have HR3:=hd_ (HR2.out.below hb3);have HB3:=tb_ HB2 hb3;have HN3:Hid (Rd w3 .u8 A3 8 c3 l3):=rd_own ho3 hl3;clear hb3 ho3 hl3;go_wp2_with fail;refine(vOps_any A n c l w3 HR3.out hn).mono ?_;rintro _ w4 ⟨⟨A4,c4,rfl,ho4⟩,hb4⟩;have HN4:=hd_ (HN3.out.below hb4);have HB4:=tb_ HB3 hb4;obtain⟨l4,hl4⟩:=ho4.rd
 have HRR:Hid (RdR (w4.alloc (.cells #[.slice A3 8 c3,.slice A4 (n*40) c4] 31)) (some ⟨w4.heap.size,0,none⟩) 2 2 60000 [(A3,8,c3,l3),(A4,n*40,c4,l4)]):=rdr_new w4 [(A3,8,c3,l3),(A4,n*40,c4,l4)] _ 2 rfl rfl (fun r hr=>by
  simp at hr
  rcases hr with rfl|rfl
  · exact⟨HN4.out,by show 8<=_;omega⟩
  · exact⟨hl4,by show n*40<=_;omega⟩)
 have HbA:Hid (Bl w1 (w4.alloc (.cells #[.slice A3 8 c3,.slice A4 (n*40) c4] 31))):=HB4.out.alloc HB4.out.size _;clear hb4 hl4 ho4;go_wp2_with fail;refine(derive_any lh _ _ 2 2 _ _ HLh.out dd HRR.out o_).mono ?_;rintro _ wz ⟨⟨lz,hlz,rfl⟩,hbz⟩;have Hbz:=tb_ HbA hbz;have HRz:=HZ.out.below Hbz.out HZ.out.lt;have HLz:=hd_ hlz;have hS:w.heap.size+1<w1.heap.size:=HZ.out.lt;clear hbz hlz;go_wp2_with (refine store_blk rfl 43 (.tmp 6) (.tmp 14) rr (w.heap.size+1) .u8 lz rr rr HRz HLz.out (by show _=_;rw[HLz.out];exact info43) ?_;intro w10 hB10 hg10);have hload:=hB10.loads underlying43 rfl (by show _=_;rw[HLz.out];exact info43);refine bodyPost_ret (v:=.agg (ints .u8 lz).toArray) (by simp[results,results63,asAddr,Act.put,hload]) rfl ⟨⟨lz,HLz.out,rfl⟩,?_⟩;exact(Hb.out.trans (Hbz.out.mono Hb.out.size)).grown hg10 (Nat.le_trans Hb.out.size Hbz.out.size) (fun k hk=>by cases hk;omega)
theorem ChgK.gr{g:Nat}(h:ChgK g w w'):w.grownBy w' (some g):=⟨h.os,h.tape,h.output,h.size,fun k hk hne=>h.block k hk (fun e=>hne (by rw[e]))⟩
theorem stores3{o1 o2 o3:Oper}{w5:World}{Q:Exit->Act->World->Prop}{k:Int}{t:List Int}(g1:o1.guard=none)(g2:o2.guard=none)(g3:o3.guard=none)(d1:o1.dst=none)(d2:o2.dst=none)(d3:o3.dst=none)(x1 y1 x2 y2 x3 y3:Operand)(ho1:o1.op=.store 45 x1 y1)(ho2:o2.op=.store 41 x2 y2)(ho3:o3.op=.store 41 x3 y3)(hx1:a.eval x1=.pointer (some ⟨w5.heap.size,0,none⟩))(hx2:a.eval x2=.pointer (some ⟨w5.heap.size+1,0,none⟩))(hx3:a.eval x3=.pointer (some ⟨w5.heap.size+1+1,0,none⟩))(hy1:a.eval y1=.agg (vw e t ad k ch).toArray)(hy2:a.eval y2=.agg (bools ai).toArray)(hy3:a.eval y3=.agg (bools go).toArray)(hv:VwOk t ad ch)(hai:ai.length=8)(hgo:go.length=8)(h:∀W8,Cel W8 w5.heap.size 45 (vw e t ad k ch)->Cel W8 (w5.heap.size+1) 41 (bools ai)->Cel W8 (w5.heap.size+1+1) 41 (bools go)->Bl w5 W8->wpList prog ops Q rest a W8):wpList prog ops Q (o1 :: o2 :: o3 :: rest) a (((w5.alloc (.cells zvw.toArray 45)).alloc (.cells (bools zb).toArray 41)).alloc (.cells (bools zb).toArray 41)):=by
 have c1:Cel (((w5.alloc (.cells zvw.toArray 45)).alloc (.cells (bools zb).toArray 41)).alloc (.cells (bools zb).toArray 41)) w5.heap.size 45 zvw:=((Cel.new zvw rfl rfl).alloc _).alloc _;have c2:Cel (((w5.alloc (.cells zvw.toArray 45)).alloc (.cells (bools zb).toArray 41)).alloc (.cells (bools zb).toArray 41)) (w5.heap.size+1) 41 (bools zb):=(Cel.new (bools zb) s_ rfl).alloc _;have c3:Cel (((w5.alloc (.cells zvw.toArray 45)).alloc (.cells (bools zb).toArray 41)).alloc (.cells (bools zb).toArray 41)) (w5.heap.size+1+1) 41 (bools zb):=Cel.new (bools zb) s_ rfl;have hb:Bl w5 (((w5.alloc (.cells zvw.toArray 45)).alloc (.cells (bools zb).toArray 41)).alloc (.cells (bools zb).toArray 41)):=bal (bal b0_);generalize ((w5.alloc (.cells zvw.toArray 45)).alloc (.cells (bools zb).toArray 41)).alloc (.cells (bools zb).toArray 41)=w6 at c1 c2 c3 hb ⊢;refine store_cel g1 45 x1 y1 ho1 w5.heap.size 0 45 [] zvw [] (vw e t ad k ch) hx1 hy1 (by simpa using c1) rfl (by rw[vw_len hv,zvw,vw_len zvOk]) (vw_hi hv) (all_oneCell_toArray (vw_all _ _ _ _ _)) ?_;intro w7 h7 hg7;rw[d1];refine store_cel g2 41 x2 y2 ho2 (w5.heap.size+1) 0 41 [] (bools zb) [] (bools ai) hx2 hy2 (by simpa using c2.grown hg7 s_) rfl (by rw[bools_len ai,hai];rfl) (hi41 hai) (all_bools _) ?_;intro w8 h8 hg8;rw[d2];refine store_cel g3 41 x3 y3 ho3 (w5.heap.size+1+1) 0 41 [] (bools zb) [] (bools go) hx3 hy3 (by simpa using(c3.grown hg7 s1_).grown hg8 s_) rfl (by rw[bools_len go,hgo];rfl) (hi41 hgo) (all_bools _) ?_;intro w9 h9 hg9;rw[d3];have hb7:=hb.grown hg7 hb.size (fun k hk=>by cases hk;omega);have hb8:=hb7.grown hg8 hb7.size (fun k hk=>by cases hk;omega);have hb9:=hb8.grown hg9 hb8.size (fun k hk=>by cases hk;omega);exact h w9 (Cel.grown (Cel.grown (by simpa using h7) hg8 s_) hg9 s1_) (Cel.grown (by simpa using h8) hg9 s_) (by simpa using h9) hb9
end Go.Proofs.YtppjnahcnofokaaGreat.T
