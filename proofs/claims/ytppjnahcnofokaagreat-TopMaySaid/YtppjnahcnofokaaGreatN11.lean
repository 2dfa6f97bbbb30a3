import Derived.Test.YtppjnahcnofokaaGreatN0
import Derived.Test.YtppjnahcnofokaaGreatN9
import Derived.Test.YtppjnahcnofokaaGreatN10
import Derived.Test.YtppjnahcnofokaaGreatProg
set_option maxRecDepth 100000
set_option maxHeartbeats 32000000
set_option linter.unusedSimpArgs false
set_option linter.unnecessarySimpa false
set_option linter.unusedVariables false
namespace Go.Proofs.YtppjnahcnofokaaGreat.T
open Go.RowKit Go.Proofs.YtppjnahcnofokaaGreatW.PrintLast
open Go.Proofs.Tryz
variable{k:IntKind}{a:Act}{b i n B base m fuel D B':Nat}{l ch t0:List Int}{w w' w1 w2:World}{t:TypeId}{P:Program}{cs xs vs l3:List Value}{A A':Option Addr}{o oi:Oper}{e s f st fl:Int}{ops:Array Oper}{rest l0:List Oper}{v:Value}{r:Option Nat}{rs rs2:List (Option Addr×Nat×Nat×List Int)}{E:Prop}{ad ai go:List Bool}{N:Act->Prop}{place:Nat->Option (Nat×Nat)}{bad:Bool}{es es':List (Int×List Int)}{T:List TypeId}
attribute [local go_sem] arr43
def JnRF(w:World)(r:Ending)(w':World):Prop:=∃P e,r=.returned (.tuple #[.pointer P,.int .i64 e])/\∀a,P=some a->∃b x g s,a=⟨b,0,none⟩/\w.heap.size<=b/\w.heap.size<=g/\PyAt w' b x g s/\MayP x
theorem join_f(p:List Int)(z:WlP)(w:World)(hp:p.length=32)(hz:WlOk w z):Calls prog 71 #[.agg (ints .u8 p).toArray,.agg (wlC z).toArray] w fun r w'=>JnRF w r w'/\Bl w w':=by
 obtain⟨w1,hW⟩:=ex_ ((w.alloc (.cells (ints .u8 p).toArray 43)).alloc (.cells (wlC z).toArray 137));have HB1:Hid (Bl w w1):=by rw[hW];exact bal b0_
 have HP1:Hid (Blk w1 w.heap.size .u8 43 p):=by rw[hW];exact(blk_new w .u8 43 p _ rfl).below b0_ s_
 have HZ1:Hid (Cel w1 (w.heap.size+1) 137 (wlC z)):=by rw[hW];exact Cel.new _ s_ rfl
 have HPp:=hd_ hp;have HZ0:=hd_ hz;have HV:=hd_ hz.vw;have HT:=hd_ hz.tag;have HW:=hd_ hW;clear hW hp;obtain⟨-,-,AX,nX,cX,lX,eX,hX,hnX⟩:=hz;have HX0:=hd_ hX;have EX:=hd_ eX;clear hX eX;go_enter func71,ntmps71
 go_wp2_with (first
  | (change wpList _ _ _ _ _ ((w.alloc (.cells (ints .u8 p).toArray 43)).alloc (.cells (wlC z).toArray 137));rw[<-HW.out];refine wpList_load_mid rfl 43 (.tmp 2) rr w.heap.size 0 rr (ints .u8 p) _ HP1.out.range underlying43 rfl (hi43 HPp.out).out ?_)
  | (refine wpList_load_mid rfl 137 (.tmp 3) rr (w.heap.size+1) 0 rr (wlC z) _ HZ1.out.all underlying137 rfl (wl_hi HV.out HT.out) ?_))
 refine(fits_f p z w1 HPp.out HV.out HT.out).mono ?_;rintro _ w2 ⟨⟨q,rfl,hq⟩,hb⟩;have HB2:=tb_ HB1 hb;have HP2:=hd_ (HP1.out.below hb HP1.out.lt);have HZ2:=hd_ (HZ1.out.below hb HZ1.out.lt);clear hb HB1 HP1 HZ1 HW
 cases q with
 | false=>
  clear hq;go_wp2_with fail;exact bodyPost_ret (v:=.tuple #[.pointer none,.int .i64 10]) (by simp[results,results71,asAddr,Act.put]) rfl ⟨⟨none,_,rfl,fun a h=>by cases h⟩,HB2.out⟩
 | true=>
 obtain⟨⟨hl0,hl8⟩,hmay⟩:=hq rfl;have HMJ0:=hd_ hmay;clear hmay;obtain⟨lf,hlf⟩:=Int.eq_ofNat_of_zero_le hl0;have HLF:=hd_ hlf;have HL8:Hid (lf<8):=by rw[hlf]at hl8;show lf<8;omega
 clear hq hl0 hl8 hlf;go_wp2_with fail;refine pr_ 0 9 (bt 9 0) fun w1d hw1d=>?_;refine mG ?_;have HP3:Hid (Blk w1d w.heap.size .u8 43 p):=by rw[<-hw1d];exact HP2.out.drew
 have HB3:Hid (Bl w w1d):=by rw[<-hw1d];exact HB2.out.drew
 have HZ3:Hid (Cel w1d (w.heap.size+1) 137 (wlC z)):=by rw[<-hw1d];exact HZ2.out.drew
 have hH:(fun w'=>w'.cell? ⟨w.heap.size+1,0,none⟩=some (.int .i64 lf)/\Hid (Blk w' w.heap.size .u8 43 p)) w1d:=⟨(HZ3.out.cell 0).trans (by show some (Value.int .i64 z.lf)=_;rw[HLF.out]),HP3⟩;clear hw1d HP2 HB2 HZ2;refine wpAny_of_last (S:=fun w'=>w'.cell? ⟨w.heap.size+1,0,none⟩=some (.int .i64 lf)/\Hid (Blk w' w.heap.size .u8 43 p)) (ds:=[8]) _ _ _ _ ?_;refine ts_ 0 3 6 (bt 9 7) hH ?_;refine mD ?_;repeat (first|(refine tk_ 43 (.tmp 2) w.heap.size 0 (ints .u8 p) (fun _ h=>h.2.out.range) underlying43 rfl (hi43 HPp.out).out ?_)|(refine uA ?_)|(refine mB2 ?_))
 refine takes_nil ?_;refine ts_ 4 1 5 (bt 9 23) hH ?_;refine mD ?_;repeat (first|(refine tk_ 43 (.tmp 2) w.heap.size 0 (ints .u8 p) (fun _ h=>h.2.out.range) underlying43 rfl (hi43 HPp.out).out ?_)|(refine uA ?_)|(refine mB2 ?_))
 refine takes_nil ?_;refine one_ (i:=3) (N:=some 20) (bt 9 31) rfl rfl kk dd (fun K hK=>?_);refine goes_ func34 kk rfl #[.agg (ints .u8 p).toArray] rr rfl rfl mL ?_;refine(signer_any p _ HPp.out).mono ?_;rintro _ w4 ⟨⟨g,sk,hg,hk,rfl⟩,hb⟩;refine⟨_,rfl,?_⟩;have HK4:=hd_ hk;have hg4:w.heap.size<=g:=Nat.le_trans HB3.out.size hg;have HP4:=hd_ (HP3.out.below hb HP3.out.lt);have HZ4:=hd_ (HZ3.out.below hb HZ3.out.lt);have HB4:=tb_ HB3 hb;clear HP3 HZ3 HB3;refine hK.out _ _ ⟨(HZ4.out.cell 0).trans (by show some (Value.int .i64 z.lf)=_;rw[HLF.out]),HP4⟩ (fun hH=>?_);clear hK K hb hk hg;refine mN ?_;refine one_ (i:=5) (N:=some 22) (bt 9 63) rfl rfl kk dd (fun K hK=>?_);refine goes_ func35 kk rfl #[.agg (ints .u8 p).toArray] rr rfl rfl mL ?_;refine(own_any p _ HPp.out).mono ?_;rintro _ w5 ⟨⟨ow,how,rfl⟩,hb⟩;refine⟨_,rfl,?_⟩;have HOw:=hd_ how;have HP5:=hd_ (HP4.out.below hb HP4.out.lt);have HZ5:=hd_ (HZ4.out.below hb HZ4.out.lt);have HB5:=tb_ HB4 hb;have HK5:=hd_ (HK4.out.below hb HK4.out.lt);clear HP4 HZ4 HB4 HK4;refine hK.out _ _ ⟨(HZ5.out.cell 0).trans (by show some (Value.int .i64 z.lf)=_;rw[HLF.out]),HP5⟩ (fun hH=>?_);clear hK K hb how;refine mN ?_;refine one_ (i:=6) (N:=some 23) (bt 9 127) rfl rfl kk dd (fun K hK=>?_);refine step_build rfl 82 _ rfl #[(1,.int .i64 lf),(2,.pointer (some ⟨g,0,none⟩)),(3,.agg (ints .u8 ow).toArray)] (by simp only[List.map_toArray,List.map_cons,List.map_nil];rfl) _ (run_build82l lf _ ow HOw.out w5) ?_;refine hK.out _ _ hH (fun hH=>?_);clear hK K;refine norm_ (a':=?_) ?_ ?_;rotate_left
 · show Act.put _ (some 23) _=_;simp only[Act.put,List.setIfInBounds_toArray,List.set_cons_zero,List.set_cons_succ];rfl
 refine one_ (i:=7) (N:=some 24) (bt 9 255) rfl rfl kk dd (fun K hK=>?_);obtain⟨wn,hwn⟩:=ex_ (w5.alloc (.cells (pyC (npy lf (.pointer (some ⟨g,0,none⟩)) ow)).toArray 82));refine value_ rr rfl (v:=.pointer (some ⟨w5.heap.size,0,none⟩)) (w1:=wn) (vv hwn) ?_;have hb:=nb_ hwn;have HX6:Hid (Cel wn w5.heap.size 82 (pyC (npy lf (.pointer (some ⟨g,0,none⟩)) ow))):=by rw[hwn];exact Cel.new _ rfl rfl
 obtain⟨bp,hbp⟩:=ex_ (w5.heap.size);have np:w.heap.size+1<bp:=by rw[hbp];exact HZ5.out.lt
 have ng:g<bp:=by rw[hbp];exact HK5.out.lt
 have HP6:=hd_ (HP5.out.below hb HP5.out.lt);have HZ6:=hd_ (HZ5.out.below hb HZ5.out.lt);have HB6:=tb_ HB5 hb;have HK6:=hd_ (HK5.out.below hb HK5.out.lt);clear HP5 HZ5 HB5 HK5;rw[<-hbp]at HX6 ⊢;refine hK.out _ _ ⟨(HZ6.out.cell 0).trans (by show some (Value.int .i64 z.lf)=_;rw[HLF.out]),HP6⟩ (fun hH=>?_);clear hK K hb hwn hbp;refine mN ?_;refine tl_ 8 ?_;refine mF ?_;clear hH;obtain⟨x0,hx0⟩:=ex_ (npy lf (.pointer (some ⟨g,0,none⟩)) ow);have HOk0:Hid (PyOk x0):=by rw[hx0];exact npyOk ⟨by omega,by have:=HL8.out;omega⟩ HOw.out
 have HLx:Hid (x0.lf=(lf:Int)):=by rw[hx0];rfl
 have HG0:Hid (x0.G=.pointer (some ⟨g,0,none⟩)/\x0.ow=ow):=by rw[hx0];exact⟨rfl,rfl⟩
 rw[<-hx0]at HX6;clear hx0;go_wp2_with fail;refine pr_ 0 13 (bt 13 0) fun w1d hw1d=>?_;refine mG ?_;have HX7:Hid (Cel w1d bp 82 (pyC x0)):=by rw[<-hw1d];exact HX6.out.drew
 have HB7:Hid (Bl w w1d):=by rw[<-hw1d];exact HB6.out.drew
 have HZ7:Hid (Cel w1d (w.heap.size+1) 137 (wlC z)):=by rw[<-hw1d];exact HZ6.out.drew
 have HK7:Hid (KeyAt w1d g sk):=by rw[<-hw1d];exact HK6.out.below (Below.refl _ _).drew HK6.out.lt
 have hH:(fun w'=>Hid (Cel w' bp 82 (pyC x0))/\w'.cell? ⟨w.heap.size+1,75,none⟩=some (.slice AX nX cX)) w1d:=⟨HX7,(HZ7.out.cell 75).trans ((wl_X HV.out).trans (by rw[EX.out]))⟩;clear hw1d HX6 HB6 HZ6 HK6 HP6;refine wpAny_of_last (S:=fun w'=>Hid (Cel w' bp 82 (pyC x0))/\w'.cell? ⟨w.heap.size+1,75,none⟩=some (.slice AX nX cX)) (ds:=[11,12]) _ _ _ _ ?_;refine ts_ 0 4 9 (bt 13 15) hH ?_;refine mD ?_;repeat (first|(refine tk_ 43 (.tmp 28) bp 75 (ints .u8 x0.ow) (fun _ h=>py_rg2 HOk0.out h.1.out) underlying43 rfl (hi43 HOk0.out.ow).out ?_)|(refine uA ?_)|(refine mB2 ?_))
 refine takes_nil ?_;refine ts_ 5 2 7 (bt 13 111) hH ?_;refine mD ?_;repeat (first|(refine tk_ 43 (.tmp 28) bp 75 (ints .u8 x0.ow) (fun _ h=>py_rg2 HOk0.out h.1.out) underlying43 rfl (hi43 HOk0.out.ow).out ?_)|(refine uA ?_)|(refine mB2 ?_))
 refine takes_nil ?_;refine one_ (i:=4) (N:=some 30) (bt 13 127) rfl rfl kk dd (fun K hK=>?_);refine goes_ func51 kk rfl #[.agg (ints .u8 x0.ow).toArray] rr rfl rfl mL ?_;refine(node_any x0.ow _ HOk0.out.ow).mono ?_;rintro _ w8 ⟨⟨g2,s2,hg2,hk2,rfl⟩,hb⟩;refine⟨_,rfl,?_⟩;have HKV:Hid (KeyV w8 w1d.heap.size (.pointer (some ⟨g2,0,none⟩))):=.inr ⟨g2,s2,hg2,hk2,rfl⟩;have HB78:=hd_ hb;refine hK.out _ _ ⟨(hd_ (HX7.out.below hb HX7.out.lt)),((hd_ (HZ7.out.below hb HZ7.out.lt)).out.cell 75).trans ((wl_X HV.out).trans (by rw[EX.out]))⟩ (fun hH=>?_);clear hK K hb hg2 hk2;refine mN ?_;refine one_ (i:=7) (N:=some 33) (bt 13 255) rfl rfl kk dd (fun K hK=>?_);refine goes_ func122 kk rfl #[.pointer (some ⟨g2,0,none⟩),.slice AX nX cX] rr rfl rfl mL ?_;refine(open_k _ w1d.heap.size AX nX cX lX _ HKV.out HB78.out.size (HX0.out.below (HB7.out.trans (HB78.out.mono HB7.out.size))) o_).mono ?_;rintro _ w9 ⟨⟨A9,m9,c9,e9,rfl,ho,hm9⟩,hb9⟩;refine⟨_,rfl,?_⟩;have HO9:=hd_ ho;have hb:Bl w1d w9:=HB78.out.trans hb9;have n9:bp<w8.heap.size:=Nat.lt_of_lt_of_le HX7.out.lt HB78.out.size;have HX9:=hd_ (HX7.out.below hb HX7.out.lt);have HZ9:=hd_ (HZ7.out.below hb HZ7.out.lt);have HB9:=tb_ HB7 hb;have HK9:=hd_ (HK7.out.below hb HK7.out.lt);clear HX7 HZ7 HB7 HK7;refine hK.out _ _ ⟨HX9,(HZ9.out.cell 75).trans ((wl_X HV.out).trans (by rw[EX.out]))⟩ (fun hH=>?_);clear hK K hb ho hb9 HKV HB78;refine mN ?_;refine ts_ 8 2 3 (bt 13 1023) hH ?_;refine mD ?_;repeat (first|(refine tk_ 43 (.tmp 28) bp 75 (ints .u8 x0.ow) (fun _ h=>py_rg2 HOk0.out h.1.out) underlying43 rfl (hi43 HOk0.out.ow).out ?_)|(refine uA ?_)|(refine mB2 ?_))
 refine takes_nil ?_;refine ps_ 10 1 2 (bt 13 2047) ?_;refine mT1 ?_;refine tl_ 11 ?_;refine mF ?_;clear hH;by_cases he9:e9=0;rotate_left
 · go_wp2_with fail;exact bodyPost_ret (v:=.tuple #[.pointer none,.int .i64 3]) (by simp[results,results71,asAddr,Act.put]) rfl ⟨⟨none,_,rfl,fun a h=>by cases h⟩,HB9.out⟩
 subst he9;by_cases h64:m9=64;rotate_left
 · (have h64i:¬(m9:Int)=64:=by omega);go_wp2_with fail;exact bodyPost_ret (v:=.tuple #[.pointer none,.int .i64 10]) (by simp[results,results71,asAddr,Act.put]) rfl ⟨⟨none,_,rfl,fun a h=>by cases h⟩,HB9.out⟩
 subst h64;obtain⟨g9,rfl,hg9,hg9b,hc9⟩:=HO9.out.at o_;obtain⟨l9,hl9⟩:=HO9.out.rd;have HR9:Hid (w9.rangeAt g9 0 (ints .u8 l9)):=by obtain⟨b',o',e',-,hr⟩:=hl9.at_ o_;injection e' with e';injection e' with e1 e2;subst e1;subst e2;exact hr
 have HL9:Hid (l9.length=64):=hl9.len;have c9i:(64:Int)<=c9:=by omega
 have c9j:(32:Int)<=c9:=by omega
 have c9n:¬c9=32:=by omega
 clear hl9;go_wp2_with fail;refine pr_ 0 12 (bt 12 0) fun w1d hw1d=>?_;refine mG ?_;have HX:Hid (Cel w1d bp 82 (pyC x0)):=by rw[<-hw1d];exact HX9.out.drew
 have HZ:Hid (Cel w1d (w.heap.size+1) 137 (wlC z)):=by rw[<-hw1d];exact HZ9.out.drew
 have HB:Hid (Bl w w1d):=by rw[<-hw1d];exact HB9.out.drew
 have HK:Hid (KeyAt w1d g sk):=by rw[<-hw1d];exact HK9.out.below (Below.refl _ _).drew HK9.out.lt
 have HR:Hid (w1d.rangeAt g9 0 (ints .u8 l9)):=by rw[<-hw1d];exact HR9.out
 have hg9w:g9<w1d.heap.size:=by rw[<-hw1d];exact hg9b
 have HBB:Hid (Bl w1d w1d):=Below.refl _ _;clear hw1d HX9 HZ9 HB9 HK9 HR9 HO9;refine wpAny_of_last (S:=fun w'=>Hid (w'.rangeAt g9 0 (ints .u8 l9))) (ds:=[11]) _ _ _ _ ?_;have hH:(fun w'=>Hid (w'.rangeAt g9 0 (ints .u8 l9))) w1d:=(hd_ (show World.rangeAt _ g9 0 (ints .u8 l9) from fun j v hv=>(HBB.out.cell (p:=⟨g9,0+j,none⟩) hg9w).trans (HR.out j v hv)));refine ts_ 0 8 4 (bt 12 255) hH ?_;refine mD ?_;repeat (first|(refine tk_ 43 (.tmp 45) g9 0 (ints .u8 (l9.take 32)) (fun _ h=>range_take h.out 32) underlying43 rfl (hi43 (by rw[List.length_take,HL9.out];rfl)).out ?_)|(refine tk_ 43 (.tmp 49) g9 32 (ints .u8 (l9.drop 32)) (fun _ h=>range_drop h.out 32) underlying43 rfl (hi43 (by rw[List.length_drop,HL9.out])).out ?_)|(refine uA ?_)|(refine mB0 ?_))
 refine takes_nil ?_;clear hH;refine join_ (σ:=Nat×Nat) 1 (bt 12 2047) (fun s=>match s with|(b8,b9)=>[(9,.pointer (some ⟨b8,0,none⟩)),(10,.pointer (some ⟨b9,0,none⟩))]) (fun s w'=>match s with|(b8,b9)=>Hid (Bl w1d w')/\Hid (Row w' b8 .u8 43 32)/\Hid (w1d.heap.size<=b8)/\Hid (Row w' b9 .u8 43 32)/\Hid (w1d.heap.size<=b9)) ?_ (fun st0=>?_)
 · rintro⟨b8,b9⟩ wc ⟨HBB,HJ,HJb,HQ,HQb⟩;refine mE ?_;have hH:=trivial;refine tl_ 11 ?_;refine mF ?_;clear hH;have HLq:Hid ((l9.drop 32).length=32):=hd_ (by rw[List.length_drop,HL9.out]);obtain⟨lq,hlq⟩:=ex_ (l9.drop 32);rw[<-hlq]at HLq ⊢;clear hlq
   go_wp2_with (first
    | (refine store_blk rfl 43 (.tmp 10) (.tmp 50) rr b9 .u8 lq rr rr HQ.out HLq.out (by show _=_;rw[HLq.out];exact info43) ?_
       intro wa hS hG
       have hqb:=HQb.out
       have hbb:=HBB.out.grown hG HBB.out.size (fun k hk=>by cases hk;omega)
       have HQa:Hid (Row wa b9 .u8 43 32):=⟨lq,HLq.out,hS⟩
       have HJa:=hd_ (HJ.out.put hG HQa.out)
       have HXa:=hd_ (HX.out.below hbb HX.out.lt)
       have HZa:=hd_ (HZ.out.below hbb HZ.out.lt)
       have HKa:=hd_ (HK.out.below hbb HK.out.lt)
       have HBa:=tb_ HB hbb
       have nq:=Nat.lt_of_lt_of_le HX.out.lt HQb.out
       have nj:=Nat.lt_of_lt_of_le HX.out.lt HJb.out
       clear hS hG hqb hbb HJ HQ HX HZ HK HB HBB HR HJb HQb))
   obtain⟨lj,hlj,hJa⟩:=HJa.out;obtain⟨lh,hlh,hQa⟩:=HQa.out;have HLj:=hd_ hlj;have HLh:=hd_ hlh;have HJ2:=hd_ hJa;have HQ2:=hd_ hQa;clear hlj hlh hJa hQa HJa HQa HLq;refine pr_ 0 16 (bt 16 0) fun w1d hw1d=>?_;refine mG ?_;(have HQ:Hid (Blk w1d b9 .u8 43 lh):=by rw[<-hw1d];exact HQ2.out.drew);(have HJ:Hid (Blk w1d b8 .u8 43 lj):=by rw[<-hw1d];exact HJ2.out.drew);(have HZ:Hid (Cel w1d (w.heap.size+1) 137 (wlC z)):=by rw[<-hw1d];exact HZa.out.drew);(have HB:Hid (Bl w w1d):=by rw[<-hw1d];exact HBa.out.drew);(have HK:Hid (KeyAt w1d g sk):=by rw[<-hw1d];exact HKa.out.below (Below.refl _ _).drew HKa.out.lt);(have HD:Hid (∃(nd:List Int) (hs:List Bool),nd.length=96/\hs.length=3/\Cel w1d bp 82 (pyC ((x0.snd nd).shs hs))):=by rw[<-hw1d];exact⟨x0.nd,x0.hs,HOk0.out.nd,HOk0.out.hs,HXa.out.drew⟩);clear hw1d HQ2 HJ2 HZa HBa HKa HXa;refine wpAny_of_last (S:=fun w'=>Hid (Blk w' b9 .u8 43 lh)/\w'.cell? ⟨w.heap.size+1,0,none⟩=some (.int .i64 lf)/\w'.cell? ⟨w.heap.size+1,1,none⟩=some (.int .i64 z.fr)/\Hid (Cel w' (w.heap.size+1) 137 (wlC z))) (ds:=[14,15]) _ _ _ _ ?_;have hH:(fun w'=>Hid (Blk w' b9 .u8 43 lh)/\w'.cell? ⟨w.heap.size+1,0,none⟩=some (.int .i64 lf)/\w'.cell? ⟨w.heap.size+1,1,none⟩=some (.int .i64 z.fr)/\Hid (Cel w' (w.heap.size+1) 137 (wlC z))) w1d:=⟨HQ,(HZ.out.cell 0).trans (by show some (Value.int .i64 z.lf)=_;rw[HLF.out]),(HZ.out.cell 1).trans rfl,HZ⟩;refine ts_ 0 6 10 (bt 16 63) hH ?_;refine mD ?_;(repeat (first|(refine tk_ 43 (.tmp 10) b9 0 (ints .u8 lh) (fun _ h=>h.1.out.range) underlying43 rfl (hi43 HLh.out).out ?_)|(refine tk_ 45 (.tmp 59) (w.heap.size+1) 2 (vw z.e z.t z.ad z.k z.ch) (fun _ h=>wl_view h.2.2.2.out) underlying45 rfl (vw_hi HV.out) ?_)|(refine uA ?_)|(refine mB4 ?_)));refine takes_nil ?_;refine ts_ 7 2 8 (bt 16 447) hH ?_;refine mD ?_;(repeat (first|(refine tk_ 43 (.tmp 10) b9 0 (ints .u8 lh) (fun _ h=>h.1.out.range) underlying43 rfl (hi43 HLh.out).out ?_)|(refine tk_ 45 (.tmp 59) (w.heap.size+1) 2 (vw z.e z.t z.ad z.k z.ch) (fun _ h=>wl_view h.2.2.2.out) underlying45 rfl (vw_hi HV.out) ?_)|(refine uA ?_)|(refine mB4 ?_)));refine takes_nil ?_;clear hH;refine join_ (σ:=Nat×List Int×Bool×Nat) 2 (bt 16 16383) (fun s=>match s with|(i,lr,qr,b13)=>[(58,.int .i64 i),(61,.tuple #[.agg (ints .u8 lr).toArray,.bool qr]),(51,.tuple #[.agg (ints .u8 lr).toArray,.bool qr]),(62,.agg (ints .u8 lr).toArray),(63,.bool qr),(11,.pointer (some ⟨b13,0,none⟩))]) (fun s w'=>match s with|(i,lr,qr,b13)=>Hid (Blk w' b9 .u8 43 lh)/\Hid (Blk w' b8 .u8 43 lj)/\Hid (Cel w' (w.heap.size+1) 137 (wlC z))/\Hid (Bl w w')/\Hid (KeyAt w' g sk)/\Hid ((∃(nd:List Int) (hs:List Bool),nd.length=96/\hs.length=3/\Cel w' bp 82 (pyC ((x0.snd nd).shs hs))))/\Hid (lr.length=32)/\Hid (Row w' b13 .u8 43 32)/\Hid (bp<b13/\b8<b13/\b9<b13)) ?_ (fun st0=>?_)
   · rintro⟨i,lr,qr,b13⟩ wc ⟨HQ,HJ,HZ,HB,HK,HD,HLr,HT13,HT13b⟩;refine mE ?_;have hH:=trivial;refine tl_ 14 ?_;refine mF ?_;clear hH
     cases qr with
     | false=>
      go_wp2_with (first
       | (refine store_blk rfl 43 (.tmp 11) (.tmp 62) rr b13 .u8 lr rr rr HT13.out HLr.out (by show _=_;rw[HLr.out];exact info43) ?_
          intro wb hS hG
          have ht:=HT13b.out
          have HZb:=hd_ (HZ.out.grown hG s1_)
          have HJb2:=hd_ (HJ.out.grown hG s1_)
          have HKb:=hd_ (HK.out.gr hG s1_)
          have HBb:=hd_ (HB.out.grown hG HB.out.size (fun k hk=>by cases hk;omega))
          obtain⟨nd,hs,hnd,hhs,hD⟩:=HD.out
          have HDb:=hd_ (hD.grown hG s1_)
          have HOk1:Hid (PyOk ((x0.snd nd).shs hs)):=(HOk0.out.snd hnd).shs hhs
          clear hS hG ht hD hnd hhs HZ HJ HK HB HD HT13 HQ))
      exact bodyPost_ret (v:=.tuple #[.pointer none,.int .i64 10]) (by simp[results,results71,asAddr,Act.put]) rfl ⟨⟨none,_,rfl,fun a h=>by cases h⟩,HBb.out⟩
     | true=>
      go_wp2_with (first
       | (refine store_blk rfl 43 (.tmp 11) (.tmp 62) rr b13 .u8 lr rr rr HT13.out HLr.out (by show _=_;rw[HLr.out];exact info43) ?_
          intro wb hS hG
          have ht:=HT13b.out
          have HZb:=hd_ (HZ.out.grown hG s1_)
          have HJb2:=hd_ (HJ.out.grown hG s1_)
          have HKb:=hd_ (HK.out.gr hG s1_)
          have HBb:=hd_ (HB.out.grown hG HB.out.size (fun k hk=>by cases hk;omega))
          obtain⟨nd,hs,hnd,hhs,hD⟩:=HD.out
          have HDb:=hd_ (hD.grown hG s1_)
          have HOk1:Hid (PyOk ((x0.snd nd).shs hs)):=(HOk0.out.snd hnd).shs hhs
          clear hS hG ht hD hnd hhs HZ HJ HK HB HD HT13 HQ))
      refine pr_ 0 8 (bt 8 0) fun w1d hw1d=>?_
      refine mG ?_
      have HZc:Hid (Cel w1d (w.heap.size+1) 137 (wlC z)):=by rw[<-hw1d];exact HZb.out.drew
      have HJc:Hid (Blk w1d b8 .u8 43 lj):=by rw[<-hw1d];exact HJb2.out.drew
      have HBc:Hid (Bl w w1d):=by rw[<-hw1d];exact HBb.out.drew
      have HKc:Hid (KeyAt w1d g sk):=by rw[<-hw1d];exact HKb.out.below (Below.refl _ _).drew HKb.out.lt
      have HDc:Hid (Cel w1d bp 82 (pyC ((x0.snd nd).shs hs))):=by rw[<-hw1d];exact HDb.out.drew
      have hH:(fun w'=>Hid (Cel w' (w.heap.size+1) 137 (wlC z))/\Hid (Blk w' b8 .u8 43 lj)) w1d:=⟨HZc,HJc⟩
      clear hw1d HZb HJb2 HBb HKb HDb
      refine wpAny_of_last (S:=fun w'=>Hid (Cel w' (w.heap.size+1) 137 (wlC z))/\Hid (Blk w' b8 .u8 43 lj)) (ds:=[7]) _ _ _ _ ?_
      refine ts_ 0 4 4 (bt 8 15) hH ?_
      refine mD ?_
      repeat (first|(refine tk_ 45 (.tmp 67) (w.heap.size+1) 2 (vw z.e z.t z.ad z.k z.ch) (fun _ h=>wl_view h.1.out) underlying45 rfl (vw_hi HV.out) ?_)|(refine tk_ 43 (.tmp 9) b8 0 (ints .u8 lj) (fun _ h=>h.2.out.range) underlying43 rfl (hi43 HLj.out).out ?_)|(refine tk_ 43 (.tmp 71) (w.heap.size+1) 76 (ints .u8 z.tag) (fun _ h=>wl_trange h.1.out HV.out) underlying43 rfl (hi43 HT.out).out ?_)|(refine uA ?_)|(refine mB2 ?_))
      refine takes_nil ?_
      refine ts_ 5 2 2 (bt 8 111) hH ?_
      refine mD ?_
      repeat (first|(refine tk_ 45 (.tmp 67) (w.heap.size+1) 2 (vw z.e z.t z.ad z.k z.ch) (fun _ h=>wl_view h.1.out) underlying45 rfl (vw_hi HV.out) ?_)|(refine tk_ 43 (.tmp 9) b8 0 (ints .u8 lj) (fun _ h=>h.2.out.range) underlying43 rfl (hi43 HLj.out).out ?_)|(refine tk_ 43 (.tmp 71) (w.heap.size+1) 76 (ints .u8 z.tag) (fun _ h=>wl_trange h.1.out HV.out) underlying43 rfl (hi43 HT.out).out ?_)|(refine uA ?_)|(refine mB2 ?_))
      refine takes_nil ?_
      refine one_ (i:=4) (N:=some 70) (bt 8 127) rfl rfl kk dd (fun K hK=>?_)
      refine goes_ func106 kk rfl #[.pointer (some ⟨bp,0,none⟩),.agg (vw z.e z.t z.ad z.k z.ch).toArray,.agg (ints .u8 lj).toArray] rr rfl rfl mL ?_
      refine(enters_any bp ((x0.snd nd).shs hs) z.e z.k z.t z.ch z.ad lj _ HDc.out HOk1.out HV.out HLj.out).mono ?_
      rintro _ wd ⟨⟨le,hle,rfl⟩,⟨ep,it,hep,hit,hcz⟩,hG⟩
      refine⟨_,rfl,?_⟩
      have HLe:=hd_ hle
      have HDd:=hd_ hcz
      have HOk2:Hid (PyOk (((((x0.snd nd).shs hs).set z.e z.k z.t z.ch z.ad).sep ep).sit it)):=((HOk1.out.set HV.out).sep hep).sit hit
      have HBd:=hd_ (HBc.out.grown hG HBc.out.size (fun k hk=>by cases hk;omega))
      have HKd:=hd_ (HKc.out.gr hG s1_)
      refine hK.out _ _ ⟨hd_ (HZc.out.grown hG s1_),hd_ (HJc.out.grown hG s1_)⟩ (fun hH=>?_)
      clear hK K hG hle hep hit hcz HZc HJc HBc HKc HDc
      refine mN ?_
      refine tl_ 7 ?_
      refine mF ?_
      clear hH
      obtain⟨q,hq,-⟩:=neq43 HLe.out HT.out wd
      cases q with
      | true=>
       go_wp2_with (refine wpList_cmp rfl .neq 43 43 (.tmp 70) (.tmp 72) rr _ _ _ rr rr gd43 hq ?_);exact bodyPost_ret (v:=.tuple #[.pointer none,.int .i64 11]) (by simp[results,results71,asAddr,Act.put]) rfl ⟨⟨none,_,rfl,fun a h=>by cases h⟩,HBd.out⟩
      | false=>
       go_wp2_with (refine wpList_cmp rfl .neq 43 43 (.tmp 70) (.tmp 72) rr _ _ _ rr rr gd43 hq ?_);refine bodyPost_ret (v:=.tuple #[.pointer (some ⟨bp,0,none⟩),.int .i64 0]) (by simp[results,results71,asAddr,Act.put]) rfl ⟨⟨_,_,rfl,fun a h=>?_⟩,HBd.out⟩;(injection h with h);subst h;(have HMJ:Hid (MayP (((((x0.snd nd).shs hs).set z.e z.k z.t z.ch z.ad).sep ep).sit it)):=by have h2:=HMJ0.out.2;rw[HLF.out]at h2;exact⟨HMJ0.out.1,HOk0.out.lf,by show memB z.t x0.lf.toNat=true;rw[HLx.out];exact h2⟩);exact⟨bp,_,g,sk,rfl,by omega,hg4,⟨HDd.out,HOk2.out,HG0.out.1,HKd.out⟩,HMJ.out⟩
   refine join_ (σ:=Nat×List Int×Bool) 3 (bt 16 8191) (fun s=>match s with|(i,lr,qr)=>[(58,.int .i64 i),(61,.tuple #[.agg (ints .u8 lr).toArray,.bool qr]),(51,.tuple #[.agg (ints .u8 lr).toArray,.bool qr]),(62,.agg (ints .u8 lr).toArray),(63,.bool qr)]) (fun s w'=>match s with|(i,lr,qr)=>Hid (Blk w' b9 .u8 43 lh)/\Hid (Blk w' b8 .u8 43 lj)/\Hid (Cel w' (w.heap.size+1) 137 (wlC z))/\Hid (Bl w w')/\Hid (KeyAt w' g sk)/\Hid ((∃(nd:List Int) (hs:List Bool),nd.length=96/\hs.length=3/\Cel w' bp 82 (pyC ((x0.snd nd).shs hs))))/\Hid (lr.length=32)) ?_ (fun st1=>?_);(· rintro⟨i,lr,qr⟩ wc ⟨HQ,HJ,HZ,HB,HK,HD,HLr⟩;refine mE ?_;have hH:=trivial;refine one_ (i:=13) (N:=some 11) (bt 16 16383) rfl rfl kk dd (fun K hK=>?_);obtain⟨wn,hwn⟩:=ex_ (wc.alloc (.cells (ints .u8 zl).toArray 43));refine value_ rr rfl (v:=.pointer (some ⟨wc.heap.size,0,none⟩)) (w1:=wn) (vv hwn) ?_;have hbn:=nb_ hwn;(have hlt1:bp<wc.heap.size:=by obtain⟨_,_,_,_,h⟩:=HD.out;exact h.lt);have hlt2:=HQ.out.lt;have hlt3:=HJ.out.lt;obtain⟨b13,hb13⟩:=ex_ (wc.heap.size);(have HT13:Hid (Row wn b13 .u8 43 32):=by rw[hwn,hb13];exact Row.new zl _ rfl rfl);(have HT13b:Hid (bp<b13/\b8<b13/\b9<b13):=by rw[hb13];exact⟨hlt1,hlt3,hlt2⟩);rw[<-hb13];clear hwn hb13 hlt1 hlt2 hlt3;(have HQn:Hid (Blk wn b9 .u8 43 lh):=by first|exact HQ.out.below hbn HQ.out.lt|exact HQ.out.grown hbn s1_);(have HJn:Hid (Blk wn b8 .u8 43 lj):=by first|exact HJ.out.below hbn HJ.out.lt|exact HJ.out.grown hbn s1_);(have HZn:Hid (Cel wn (w.heap.size+1) 137 (wlC z)):=by first|exact HZ.out.below hbn HZ.out.lt|exact HZ.out.grown hbn s1_);(have HBn:Hid (Bl w wn):=by first|exact HB.out.trans (hbn.mono HB.out.size)|exact HB.out.grown hbn HB.out.size (fun k hk=>by cases hk;omega));(have HKn:Hid (KeyAt wn g sk):=by first|exact HK.out.below hbn HK.out.lt|exact HK.out.gr hbn s1_);(have HDn:Hid ((∃(nd:List Int) (hs:List Bool),nd.length=96/\hs.length=3/\Cel wn bp 82 (pyC ((x0.snd nd).shs hs)))):=by first|(obtain⟨nd,hs,h1,h2,h3⟩:=HD.out;exact⟨nd,hs,h1,h2,h3.below hbn h3.lt⟩)|exact hDn);have HLrn:=hd_ (HLr.out);refine hK.out _ _ (⟨HQn,(HZn.out.cell 0).trans (by show some (Value.int .i64 z.lf)=_;rw[HLF.out]),(HZn.out.cell 1).trans rfl,HZn⟩) (fun hH=>?_);refine mN ?_;exact mH (st0 (i,lr,qr,b13) wn ⟨HQn,HJn,HZn,HBn,HKn,HDn,HLrn,HT13,HT13b⟩));refine join_ (σ:=Nat×Nat) 6 (bt 16 8703) (fun s=>match s with|(i,b13)=>[(58,.int .i64 i),(11,.pointer (some ⟨b13,0,none⟩))]) (fun s w'=>match s with|(i,b13)=>Hid (Blk w' b9 .u8 43 lh)/\Hid (Blk w' b8 .u8 43 lj)/\Hid (Cel w' (w.heap.size+1) 137 (wlC z))/\Hid (Bl w w')/\Hid (KeyAt w' g sk)/\Hid ((∃(nd:List Int) (hs:List Bool),nd.length=96/\hs.length=3/\Cel w' bp 82 (pyC ((x0.snd nd).shs hs))))/\Hid (Row w' b13 .u8 43 32)/\Hid (bp<b13/\b8<b13/\b9<b13)) ?_ (fun st2=>?_);(· rintro⟨i,b13⟩ wc ⟨HQ,HJ,HZ,HB,HK,HD,HT13,HT13b⟩;refine mE ?_;have hH:=trivial;refine one_ (i:=9) (N:=some 61) (bt 16 9215) rfl rfl kk dd (fun K hK=>?_);refine goes_ func123 kk rfl #[.pointer (some ⟨bp,0,none⟩),.agg (ints .u8 lh).toArray,.int .i64 i,.agg (vw z.e z.t z.ad z.k z.ch).toArray] rr rfl rfl mL ?_;obtain⟨nd0,hs0,hn0,hh0,hc0⟩:=HD.out;refine(learns_any bp ((x0.snd nd0).shs hs0) lh i z.e z.k z.t z.ch z.ad _ hc0 ((HOk0.out.snd hn0).shs hh0) HLh.out HV.out).mono ?_;rintro _ wn ⟨⟨lr,qr,hlr,rfl⟩,⟨nd1,hs1,hn1,hh1,hc1⟩,hbn⟩;refine⟨_,rfl,?_⟩;have HLr:Hid (lr.length=32):=hlr;have hDn:(∃(nd:List Int) (hs:List Bool),nd.length=96/\hs.length=3/\Cel wn bp 82 (pyC ((x0.snd nd).shs hs))):=⟨nd1,hs1,hn1,hh1,hc1⟩;(have HQn:Hid (Blk wn b9 .u8 43 lh):=by first|exact HQ.out.below hbn HQ.out.lt|exact HQ.out.grown hbn s1_);(have HJn:Hid (Blk wn b8 .u8 43 lj):=by first|exact HJ.out.below hbn HJ.out.lt|exact HJ.out.grown hbn s1_);(have HZn:Hid (Cel wn (w.heap.size+1) 137 (wlC z)):=by first|exact HZ.out.below hbn HZ.out.lt|exact HZ.out.grown hbn s1_);(have HBn:Hid (Bl w wn):=by first|exact HB.out.trans (hbn.mono HB.out.size)|exact HB.out.grown hbn HB.out.size (fun k hk=>by cases hk;omega));(have HKn:Hid (KeyAt wn g sk):=by first|exact HK.out.below hbn HK.out.lt|exact HK.out.gr hbn s1_);(have HDn:Hid ((∃(nd:List Int) (hs:List Bool),nd.length=96/\hs.length=3/\Cel wn bp 82 (pyC ((x0.snd nd).shs hs)))):=by first|(obtain⟨nd,hs,h1,h2,h3⟩:=HD.out;exact⟨nd,hs,h1,h2,h3.below hbn h3.lt⟩)|exact hDn);(have HT13n:Hid (Row wn b13 .u8 43 32):=by first|exact HT13.out.below hbn HT13.out.lt|exact Row.grown' HT13.out hbn (by have:=HT13b.out;omega));have HT13bn:=hd_ (HT13b.out);refine hK.out _ _ (⟨HQn,(HZn.out.cell 0).trans (by show some (Value.int .i64 z.lf)=_;rw[HLF.out]),(HZn.out.cell 1).trans rfl,HZn⟩) (fun hH=>?_);refine mN ?_;refine ts_ 10 2 3 (bt 16 12287) hH ?_;refine mD ?_;(repeat (first|(refine tk_ 43 (.tmp 10) b9 0 (ints .u8 lh) (fun _ h=>h.1.out.range) underlying43 rfl (hi43 HLh.out).out ?_)|(refine tk_ 45 (.tmp 59) (w.heap.size+1) 2 (vw z.e z.t z.ad z.k z.ch) (fun _ h=>wl_view h.2.2.2.out) underlying45 rfl (vw_hi HV.out) ?_)|(refine uA ?_)|(refine mB4 ?_)));refine takes_nil ?_;refine ps_ 12 1 2 (bt 16 16383) ?_;refine mT1 ?_;exact mH (st0 (i,lr,qr,b13) wn ⟨HQn,HJn,HZn,HBn,HKn,HDn,HLr,HT13n,HT13bn⟩));refine join_ (σ:=Nat) 7 (bt 16 511) (fun s=>match s with|i=>[(58,.int .i64 i)]) (fun s w'=>match s with|i=>Hid (Blk w' b9 .u8 43 lh)/\Hid (Blk w' b8 .u8 43 lj)/\Hid (Cel w' (w.heap.size+1) 137 (wlC z))/\Hid (Bl w w')/\Hid (KeyAt w' g sk)/\Hid ((∃(nd:List Int) (hs:List Bool),nd.length=96/\hs.length=3/\Cel w' bp 82 (pyC ((x0.snd nd).shs hs))))) ?_ (fun st3=>?_);(· rintro i wc ⟨HQ,HJ,HZ,HB,HK,HD⟩;refine mE ?_;have hH:=trivial;refine two_ (i:=9) (j:=13) (Ni:=some 61) (Nj:=some 11) (bt 16 1023) (bt 16 8703) rfl rfl rfl rfl kk dd dd (fun K hK=>?_) (fun K hK=>?_);(· refine goes_ func123 kk rfl #[.pointer (some ⟨bp,0,none⟩),.agg (ints .u8 lh).toArray,.int .i64 i,.agg (vw z.e z.t z.ad z.k z.ch).toArray] rr rfl rfl mL ?_;obtain⟨nd0,hs0,hn0,hh0,hc0⟩:=HD.out;refine(learns_any bp ((x0.snd nd0).shs hs0) lh i z.e z.k z.t z.ch z.ad _ hc0 ((HOk0.out.snd hn0).shs hh0) HLh.out HV.out).mono ?_;rintro _ wn ⟨⟨lr,qr,hlr,rfl⟩,⟨nd1,hs1,hn1,hh1,hc1⟩,hbn⟩;refine⟨_,rfl,?_⟩;have HLr:Hid (lr.length=32):=hlr;have hDn:(∃(nd:List Int) (hs:List Bool),nd.length=96/\hs.length=3/\Cel wn bp 82 (pyC ((x0.snd nd).shs hs))):=⟨nd1,hs1,hn1,hh1,hc1⟩;(have HQn:Hid (Blk wn b9 .u8 43 lh):=by first|exact HQ.out.below hbn HQ.out.lt|exact HQ.out.grown hbn s1_);(have HJn:Hid (Blk wn b8 .u8 43 lj):=by first|exact HJ.out.below hbn HJ.out.lt|exact HJ.out.grown hbn s1_);(have HZn:Hid (Cel wn (w.heap.size+1) 137 (wlC z)):=by first|exact HZ.out.below hbn HZ.out.lt|exact HZ.out.grown hbn s1_);(have HBn:Hid (Bl w wn):=by first|exact HB.out.trans (hbn.mono HB.out.size)|exact HB.out.grown hbn HB.out.size (fun k hk=>by cases hk;omega));(have HKn:Hid (KeyAt wn g sk):=by first|exact HK.out.below hbn HK.out.lt|exact HK.out.gr hbn s1_);(have HDn:Hid ((∃(nd:List Int) (hs:List Bool),nd.length=96/\hs.length=3/\Cel wn bp 82 (pyC ((x0.snd nd).shs hs)))):=by first|(obtain⟨nd,hs,h1,h2,h3⟩:=HD.out;exact⟨nd,hs,h1,h2,h3.below hbn h3.lt⟩)|exact hDn);refine hK.out _ _ (⟨HQn,(HZn.out.cell 0).trans (by show some (Value.int .i64 z.lf)=_;rw[HLF.out]),(HZn.out.cell 1).trans rfl,HZn⟩) (fun hH=>?_);refine mN ?_;refine ts_ 10 2 4 (bt 16 4095) hH ?_;refine mD ?_;(repeat (first|(refine tk_ 43 (.tmp 10) b9 0 (ints .u8 lh) (fun _ h=>h.1.out.range) underlying43 rfl (hi43 HLh.out).out ?_)|(refine tk_ 45 (.tmp 59) (w.heap.size+1) 2 (vw z.e z.t z.ad z.k z.ch) (fun _ h=>wl_view h.2.2.2.out) underlying45 rfl (vw_hi HV.out) ?_)|(refine uA ?_)|(refine mB4 ?_)));refine takes_nil ?_;refine ps_ 12 1 3 (bt 16 8191) ?_;refine mT1 ?_;exact mH (st1 (i,lr,qr) wn ⟨HQn,HJn,HZn,HBn,HKn,HDn,HLr⟩));obtain⟨wn,hwn⟩:=ex_ (wc.alloc (.cells (ints .u8 zl).toArray 43));refine value_ rr rfl (v:=.pointer (some ⟨wc.heap.size,0,none⟩)) (w1:=wn) (vv hwn) ?_;have hbn:=nb_ hwn;(have hlt1:bp<wc.heap.size:=by obtain⟨_,_,_,_,h⟩:=HD.out;exact h.lt);have hlt2:=HQ.out.lt;have hlt3:=HJ.out.lt;obtain⟨b13,hb13⟩:=ex_ (wc.heap.size);(have HT13:Hid (Row wn b13 .u8 43 32):=by rw[hwn,hb13];exact Row.new zl _ rfl rfl);(have HT13b:Hid (bp<b13/\b8<b13/\b9<b13):=by rw[hb13];exact⟨hlt1,hlt3,hlt2⟩);rw[<-hb13];clear hwn hb13 hlt1 hlt2 hlt3;(have HQn:Hid (Blk wn b9 .u8 43 lh):=by first|exact HQ.out.below hbn HQ.out.lt|exact HQ.out.grown hbn s1_);(have HJn:Hid (Blk wn b8 .u8 43 lj):=by first|exact HJ.out.below hbn HJ.out.lt|exact HJ.out.grown hbn s1_);(have HZn:Hid (Cel wn (w.heap.size+1) 137 (wlC z)):=by first|exact HZ.out.below hbn HZ.out.lt|exact HZ.out.grown hbn s1_);(have HBn:Hid (Bl w wn):=by first|exact HB.out.trans (hbn.mono HB.out.size)|exact HB.out.grown hbn HB.out.size (fun k hk=>by cases hk;omega));(have HKn:Hid (KeyAt wn g sk):=by first|exact HK.out.below hbn HK.out.lt|exact HK.out.gr hbn s1_);(have HDn:Hid ((∃(nd:List Int) (hs:List Bool),nd.length=96/\hs.length=3/\Cel wn bp 82 (pyC ((x0.snd nd).shs hs)))):=by first|(obtain⟨nd,hs,h1,h2,h3⟩:=HD.out;exact⟨nd,hs,h1,h2,h3.below hbn h3.lt⟩)|exact hDn);refine hK.out _ _ (⟨HQn,(HZn.out.cell 0).trans (by show some (Value.int .i64 z.lf)=_;rw[HLF.out]),(HZn.out.cell 1).trans rfl,HZn⟩) (fun hH=>?_);refine mN ?_;exact mH (st2 (i,b13) wn ⟨HQn,HJn,HZn,HBn,HKn,HDn,HT13,HT13b⟩));refine join_ (σ:=Nat) 7 (bt 16 8639) (fun s=>match s with|b13=>[(11,.pointer (some ⟨b13,0,none⟩))]) (fun s w'=>match s with|b13=>Hid (Blk w' b9 .u8 43 lh)/\Hid (Blk w' b8 .u8 43 lj)/\Hid (Cel w' (w.heap.size+1) 137 (wlC z))/\Hid (Bl w w')/\Hid (KeyAt w' g sk)/\Hid ((∃(nd:List Int) (hs:List Bool),nd.length=96/\hs.length=3/\Cel w' bp 82 (pyC ((x0.snd nd).shs hs))))/\Hid (Row w' b13 .u8 43 32)/\Hid (bp<b13/\b8<b13/\b9<b13)) ?_ (fun st4=>?_);(· rintro b13 wc ⟨HQ,HJ,HZ,HB,HK,HD,HT13,HT13b⟩;refine mE ?_;have hH:=trivial;refine one_ (i:=6) (N:=some 58) (bt 16 8703) rfl rfl kk dd (fun K hK=>?_);refine goes_ func124 kk rfl #[.int .i64 lf,.int .i64 z.fr] rr rfl rfl mL ?_;refine(place_any lf z.fr _).mono ?_;rintro _ wn ⟨⟨i,hi,rfl⟩,hbn⟩;refine⟨_,rfl,?_⟩;(have HQn:Hid (Blk wn b9 .u8 43 lh):=by first|exact HQ.out.below hbn HQ.out.lt|exact HQ.out.grown hbn s1_);(have HJn:Hid (Blk wn b8 .u8 43 lj):=by first|exact HJ.out.below hbn HJ.out.lt|exact HJ.out.grown hbn s1_);(have HZn:Hid (Cel wn (w.heap.size+1) 137 (wlC z)):=by first|exact HZ.out.below hbn HZ.out.lt|exact HZ.out.grown hbn s1_);(have HBn:Hid (Bl w wn):=by first|exact HB.out.trans (hbn.mono HB.out.size)|exact HB.out.grown hbn HB.out.size (fun k hk=>by cases hk;omega));(have HKn:Hid (KeyAt wn g sk):=by first|exact HK.out.below hbn HK.out.lt|exact HK.out.gr hbn s1_);(have HDn:Hid ((∃(nd:List Int) (hs:List Bool),nd.length=96/\hs.length=3/\Cel wn bp 82 (pyC ((x0.snd nd).shs hs)))):=by first|(obtain⟨nd,hs,h1,h2,h3⟩:=HD.out;exact⟨nd,hs,h1,h2,h3.below hbn h3.lt⟩)|exact hDn);(have HT13n:Hid (Row wn b13 .u8 43 32):=by first|exact HT13.out.below hbn HT13.out.lt|exact Row.grown' HT13.out hbn (by have:=HT13b.out;omega));have HT13bn:=hd_ (HT13b.out);refine hK.out _ _ (⟨HQn,(HZn.out.cell 0).trans (by show some (Value.int .i64 z.lf)=_;rw[HLF.out]),(HZn.out.cell 1).trans rfl,HZn⟩) (fun hH=>?_);refine mN ?_;exact mH (st2 (i,b13) wn ⟨HQn,HJn,HZn,HBn,HKn,HDn,HT13n,HT13bn⟩));have hH:=trivial;refine two_ (i:=6) (j:=13) (Ni:=some 58) (Nj:=some 11) (bt 16 511) (bt 16 8639) rfl rfl rfl rfl kk dd dd (fun K hK=>?_) (fun K hK=>?_);(· refine goes_ func124 kk rfl #[.int .i64 lf,.int .i64 z.fr] rr rfl rfl mL ?_;refine(place_any lf z.fr _).mono ?_;rintro _ wn ⟨⟨i,hi,rfl⟩,hbn⟩;refine⟨_,rfl,?_⟩;(have HQn:Hid (Blk wn b9 .u8 43 lh):=by first|exact HQ.out.below hbn HQ.out.lt|exact HQ.out.grown hbn s1_);(have HJn:Hid (Blk wn b8 .u8 43 lj):=by first|exact HJ.out.below hbn HJ.out.lt|exact HJ.out.grown hbn s1_);(have HZn:Hid (Cel wn (w.heap.size+1) 137 (wlC z)):=by first|exact HZ.out.below hbn HZ.out.lt|exact HZ.out.grown hbn s1_);(have HBn:Hid (Bl w wn):=by first|exact HB.out.trans (hbn.mono HB.out.size)|exact HB.out.grown hbn HB.out.size (fun k hk=>by cases hk;omega));(have HKn:Hid (KeyAt wn g sk):=by first|exact HK.out.below hbn HK.out.lt|exact HK.out.gr hbn s1_);(have HDn:Hid ((∃(nd:List Int) (hs:List Bool),nd.length=96/\hs.length=3/\Cel wn bp 82 (pyC ((x0.snd nd).shs hs)))):=by first|(obtain⟨nd,hs,h1,h2,h3⟩:=HD.out;exact⟨nd,hs,h1,h2,h3.below hbn h3.lt⟩)|exact hDn);refine hK.out _ _ (⟨HQn,(HZn.out.cell 0).trans (by show some (Value.int .i64 z.lf)=_;rw[HLF.out]),(HZn.out.cell 1).trans rfl,HZn⟩) (fun hH=>?_);refine mN ?_;exact mH (st3 i wn ⟨HQn,HJn,HZn,HBn,HKn,HDn⟩));obtain⟨wn,hwn⟩:=ex_ (w1d.alloc (.cells (ints .u8 zl).toArray 43));refine value_ rr rfl (v:=.pointer (some ⟨w1d.heap.size,0,none⟩)) (w1:=wn) (vv hwn) ?_;have hbn:=nb_ hwn;(have hlt1:bp<w1d.heap.size:=by obtain⟨_,_,_,_,h⟩:=HD.out;exact h.lt);have hlt2:=HQ.out.lt;have hlt3:=HJ.out.lt;obtain⟨b13,hb13⟩:=ex_ (w1d.heap.size);(have HT13:Hid (Row wn b13 .u8 43 32):=by rw[hwn,hb13];exact Row.new zl _ rfl rfl);(have HT13b:Hid (bp<b13/\b8<b13/\b9<b13):=by rw[hb13];exact⟨hlt1,hlt3,hlt2⟩);rw[<-hb13];clear hwn hb13 hlt1 hlt2 hlt3;(have HQn:Hid (Blk wn b9 .u8 43 lh):=by first|exact HQ.out.below hbn HQ.out.lt|exact HQ.out.grown hbn s1_);(have HJn:Hid (Blk wn b8 .u8 43 lj):=by first|exact HJ.out.below hbn HJ.out.lt|exact HJ.out.grown hbn s1_);(have HZn:Hid (Cel wn (w.heap.size+1) 137 (wlC z)):=by first|exact HZ.out.below hbn HZ.out.lt|exact HZ.out.grown hbn s1_);(have HBn:Hid (Bl w wn):=by first|exact HB.out.trans (hbn.mono HB.out.size)|exact HB.out.grown hbn HB.out.size (fun k hk=>by cases hk;omega));(have HKn:Hid (KeyAt wn g sk):=by first|exact HK.out.below hbn HK.out.lt|exact HK.out.gr hbn s1_);(have HDn:Hid ((∃(nd:List Int) (hs:List Bool),nd.length=96/\hs.length=3/\Cel wn bp 82 (pyC ((x0.snd nd).shs hs)))):=by first|(obtain⟨nd,hs,h1,h2,h3⟩:=HD.out;exact⟨nd,hs,h1,h2,h3.below hbn h3.lt⟩)|exact hDn);refine hK.out _ _ (⟨HQn,(HZn.out.cell 0).trans (by show some (Value.int .i64 z.lf)=_;rw[HLF.out]),(HZn.out.cell 1).trans rfl,HZn⟩) (fun hH=>?_);refine mN ?_;exact mH (st4 b13 wn ⟨HQn,HJn,HZn,HBn,HKn,HDn,HT13,HT13b⟩)
 refine join_ (σ:=Nat×Nat) 2 (bt 12 1023) (fun s=>match s with|(b8,b9)=>[(9,.pointer (some ⟨b8,0,none⟩)),(10,.pointer (some ⟨b9,0,none⟩))]) (fun s w'=>match s with|(b8,b9)=>Hid (Bl w1d w')/\Hid (Row w' b8 .u8 43 32)/\Hid (w1d.heap.size<=b8)/\Hid (Row w' b9 .u8 43 32)/\Hid (w1d.heap.size<=b9)) ?_ (fun st1=>?_)
 · rintro⟨b8,b9⟩ wc ⟨HBB,HJ,HJb,HQ,HQb⟩;refine mE ?_;have hH:=trivial;refine one_ (i:=10) (N:=none) (bt 12 2047) rfl rfl kk dd (fun K hK=>?_);have hjb:=HJb.out;obtain⟨lz,hlz,hBz⟩:=HJ.out;refine step_store_cel rfl 43 (.tmp 9) (.tmp 46) rr b8 0 43 [] (ints .u8 lz) [] (ints .u8 (l9.take 32)) rr rr (by simpa using hBz.cel) rfl (by rw[ints_len,ints_len,hlz,List.length_take,HL9.out];rfl) (hi43 (by rw[List.length_take,HL9.out];rfl)).out (all_ints _ _) ?_;intro wn hS hbn;have hRw:Row wn b8 .u8 43 32:=⟨l9.take 32,by rw[List.length_take,HL9.out];rfl,Cel.blk (by simpa using hS)⟩;(have HBBn:Hid (Bl w1d wn):=by first|exact HBB.out.trans (hbn.mono HBB.out.size)|exact HBB.out.grown hbn HBB.out.size (fun k hk=>by cases hk;omega));(have HJn:Hid (Row wn b8 .u8 43 32):=by first|exact HJ.out.below hbn HJ.out.lt|exact hRw);have HJbn:=hd_ (HJb.out);(have HQn:Hid (Row wn b9 .u8 43 32):=by first|exact HQ.out.below hbn HQ.out.lt|exact HQ.out.put hbn hRw);have HQbn:=hd_ (HQb.out);refine hK.out _ _ ((hd_ (show World.rangeAt _ g9 0 (ints .u8 l9) from fun j v hv=>(HBBn.out.cell (p:=⟨g9,0+j,none⟩) hg9w).trans (HR.out j v hv)))) (fun hH=>?_);exact mH (st0 (b8,b9) wn ⟨HBBn,HJn,HJbn,HQn,HQbn⟩)
 refine join_ (σ:=Nat) 3 (bt 12 511) (fun s=>match s with|b8=>[(9,.pointer (some ⟨b8,0,none⟩))]) (fun s w'=>match s with|b8=>Hid (Bl w1d w')/\Hid (Row w' b8 .u8 43 32)/\Hid (w1d.heap.size<=b8)) ?_ (fun st2=>?_)
 · rintro b8 wc ⟨HBB,HJ,HJb⟩;refine mE ?_;have hH:=trivial;refine one_ (i:=9) (N:=some 10) (bt 12 1023) rfl rfl kk dd (fun K hK=>?_);obtain⟨wn,hwn⟩:=ex_ (wc.alloc (.cells (ints .u8 zl).toArray 43));refine value_ rr rfl (v:=.pointer (some ⟨wc.heap.size,0,none⟩)) (w1:=wn) (vv hwn) ?_;have hbn:=nb_ hwn;have hlt9:=HBB.out.size;obtain⟨b9,hb9⟩:=ex_ (wc.heap.size);(have HQ:Hid (Row wn b9 .u8 43 32):=by rw[hwn,hb9];exact Row.new zl _ rfl rfl);(have HQb:Hid (w1d.heap.size<=b9):=by rw[hb9];exact hlt9);rw[<-hb9];clear hwn hb9 hlt9;(have HBBn:Hid (Bl w1d wn):=by first|exact HBB.out.trans (hbn.mono HBB.out.size)|exact HBB.out.grown hbn HBB.out.size (fun k hk=>by cases hk;omega));(have HJn:Hid (Row wn b8 .u8 43 32):=by first|exact HJ.out.below hbn HJ.out.lt|exact hRw);have HJbn:=hd_ (HJb.out);refine hK.out _ _ ((hd_ (show World.rangeAt _ g9 0 (ints .u8 l9) from fun j v hv=>(HBBn.out.cell (p:=⟨g9,0+j,none⟩) hg9w).trans (HR.out j v hv)))) (fun hH=>?_);refine mN ?_;exact mH (st1 (b8,b9) wn ⟨HBBn,HJn,HJbn,HQ,HQb⟩)
 refine join_ (σ:=Nat) 3 (bt 12 767) (fun s=>match s with|b9=>[(10,.pointer (some ⟨b9,0,none⟩))]) (fun s w'=>match s with|b9=>Hid (Bl w1d w')/\Hid (Row w' b9 .u8 43 32)/\Hid (w1d.heap.size<=b9)) ?_ (fun st3=>?_)
 · rintro b9 wc ⟨HBB,HQ,HQb⟩;refine mE ?_;have hH:=trivial;refine one_ (i:=8) (N:=some 9) (bt 12 1023) rfl rfl kk dd (fun K hK=>?_);obtain⟨wn,hwn⟩:=ex_ (wc.alloc (.cells (ints .u8 zl).toArray 43));refine value_ rr rfl (v:=.pointer (some ⟨wc.heap.size,0,none⟩)) (w1:=wn) (vv hwn) ?_;have hbn:=nb_ hwn;have hlt9:=HBB.out.size;obtain⟨b8,hb8⟩:=ex_ (wc.heap.size);(have HJ:Hid (Row wn b8 .u8 43 32):=by rw[hwn,hb8];exact Row.new zl _ rfl rfl);(have HJb:Hid (w1d.heap.size<=b8):=by rw[hb8];exact hlt9);rw[<-hb8];clear hwn hb8 hlt9;(have HBBn:Hid (Bl w1d wn):=by first|exact HBB.out.trans (hbn.mono HBB.out.size)|exact HBB.out.grown hbn HBB.out.size (fun k hk=>by cases hk;omega));(have HQn:Hid (Row wn b9 .u8 43 32):=by first|exact HQ.out.below hbn HQ.out.lt|exact HQ.out.put hbn hRw);have HQbn:=hd_ (HQb.out);refine hK.out _ _ ((hd_ (show World.rangeAt _ g9 0 (ints .u8 l9) from fun j v hv=>(HBBn.out.cell (p:=⟨g9,0+j,none⟩) hg9w).trans (HR.out j v hv)))) (fun hH=>?_);refine mN ?_;exact mH (st1 (b8,b9) wn ⟨HBBn,HJ,HJb,HQn,HQbn⟩)
 have hH:=trivial;refine two_ (i:=8) (j:=9) (Ni:=some 9) (Nj:=some 10) (bt 12 511) (bt 12 767) rfl rfl rfl rfl kk dd dd (fun K hK=>?_) (fun K hK=>?_)
 · obtain⟨wn,hwn⟩:=ex_ (w1d.alloc (.cells (ints .u8 zl).toArray 43));refine value_ rr rfl (v:=.pointer (some ⟨w1d.heap.size,0,none⟩)) (w1:=wn) (vv hwn) ?_;have hbn:=nb_ hwn;have hlt9:=HBB.out.size;obtain⟨b8,hb8⟩:=ex_ (w1d.heap.size);(have HJ:Hid (Row wn b8 .u8 43 32):=by rw[hwn,hb8];exact Row.new zl _ rfl rfl);(have HJb:Hid (w1d.heap.size<=b8):=by rw[hb8];exact hlt9);rw[<-hb8];clear hwn hb8 hlt9;(have HBBn:Hid (Bl w1d wn):=by first|exact HBB.out.trans (hbn.mono HBB.out.size)|exact HBB.out.grown hbn HBB.out.size (fun k hk=>by cases hk;omega));refine hK.out _ _ ((hd_ (show World.rangeAt _ g9 0 (ints .u8 l9) from fun j v hv=>(HBBn.out.cell (p:=⟨g9,0+j,none⟩) hg9w).trans (HR.out j v hv)))) (fun hH=>?_);refine mN ?_;exact mH (st2 b8 wn ⟨HBBn,HJ,HJb⟩)
 obtain⟨wn,hwn⟩:=ex_ (w1d.alloc (.cells (ints .u8 zl).toArray 43));refine value_ rr rfl (v:=.pointer (some ⟨w1d.heap.size,0,none⟩)) (w1:=wn) (vv hwn) ?_;have hbn:=nb_ hwn;have hlt9:=HBB.out.size;obtain⟨b9,hb9⟩:=ex_ (w1d.heap.size);have HQ:Hid (Row wn b9 .u8 43 32):=by rw[hwn,hb9];exact Row.new zl _ rfl rfl
 have HQb:Hid (w1d.heap.size<=b9):=by rw[hb9];exact hlt9
 rw[<-hb9];clear hwn hb9 hlt9;have HBBn:Hid (Bl w1d wn):=by first|exact HBB.out.trans (hbn.mono HBB.out.size)|exact HBB.out.grown hbn HBB.out.size (fun k hk=>by cases hk;omega)
 refine hK.out _ _ ((hd_ (show World.rangeAt _ g9 0 (ints .u8 l9) from fun j v hv=>(HBBn.out.cell (p:=⟨g9,0+j,none⟩) hg9w).trans (HR.out j v hv)))) (fun hH=>?_);refine mN ?_;exact mH (st3 b9 wn ⟨HBBn,HQ,HQb⟩)
end Go.Proofs.YtppjnahcnofokaaGreat.T
namespace Go.Proofs.YtppjnahcnofokaaGreat.B
open Go.RowKit
open Go.Proofs.Tryz
variable{k:IntKind}{a:Act}{b i n B base m fuel D B':Nat}{l ch t0:List Int}{w w' w1 w2:World}{t:TypeId}{P:Program}{cs xs vs l3:List Value}{A A':Option Addr}{o oi:Oper}{e s f st fl:Int}{ops:Array Oper}{rest l0:List Oper}{v:Value}{r:Option Nat}{rs rs2:List (Option Addr×Nat×Nat×List Int)}{E:Prop}{ad ai go:List Bool}{N:Act->Prop}{place:Nat->Option (Nat×Nat)}{bad:Bool}{es es':List (Int×List Int)}{T:List TypeId}
theorem new_calls(w:World):Calls prog 20 #[] w fun e w'=>e=.returned (.pointer (some ⟨w.heap.size,0,none⟩))/\w'=w.alloc (.cells #[.slice none 0 0,.int .i64 0,.int .i64 0] 98):=by
 go_enter func20,ntmps20
 go_wp2;go_ret;exact⟨rfl,rfl⟩
theorem load_calls(b o:Nat)(x:Int)(w:World)(h0:w.cell? ⟨b,o,none⟩=some (.int .i64 x)): Calls prog 74 #[.pointer (some ⟨b,o,none⟩)] w fun e w'=>e=.returned (.int .i64 x)/\w=w':=by
 have hl:=run_call_load (P:=prog) func131 kk kk kk .i64 kk h0;go_enter func74,ntmps74
 go_wp2;go_ret;exact⟨rfl,rfl⟩
theorem store_calls(b o:Nat)(x:Int)(u:Value)(w:World)(h0:w.cell? ⟨b,o,none⟩=some u)(f0:w.frozen? ⟨b,o,none⟩=false): Calls prog 76 #[.pointer (some ⟨b,o,none⟩),.int .i64 x] w fun e w'=>e=.returned (.tuple #[])/\w.setCell ⟨b,o,none⟩ (.int .i64 x)=w':=by
 have hl:=run_call_store (P:=prog) func132 kk kk kk kk (k:=.i64) (y:=x) h0 f0;go_enter func76,ntmps76
 go_wp2;go_end0;exact⟨rfl,rfl⟩
theorem add_calls(b o:Nat)(x y:Int)(w:World)(h0:w.cell? ⟨b,o,none⟩=some (.int .i64 x))(f0:w.frozen? ⟨b,o,none⟩=false): Calls prog 21 #[.pointer (some ⟨b,o,none⟩),.int .i64 y] w fun e w'=>e=.returned (.int .i64 (wrap64 (x+y)))/\w.setCell ⟨b,o,none⟩ (.int .i64 (wrap64 (x+y)))=w':=by
 have hl:=run_call_add (P:=prog) func39 kk kk kk .i64 kk (y:=y) (s:=wrap64 (x+y)) h0 f0 (by simp[go_sem,wrap64,IntKind.wrap_i64]);go_enter func21,ntmps21
 go_wp2;go_ret;exact⟨rfl,rfl⟩
theorem eq_calls(cs:Array Value)(x y:Int)(b o:Nat)(w:World)(hb:w.cell? ⟨b,o,none⟩=some (.int .i64 y))(hlt:b<w.heap.size)(hsz:0<cs.size)(hcs:cs[0]=.int .i64 x): Calls prog 157 #[.agg cs,.pointer (some ⟨b,o,none⟩)] w fun e w'=>e=.returned (.bool (x==y))/\Bl w w':=by
 go_enter func157,ntmps157
 go_wp2;go_ret;exact⟨rfl,(Below.refl _ _).alloc (Nat.le_refl _) _⟩
/-! ### Papers, entries, rows of entries -/
def pc(p:List Int):List Value:=p.map (Value.int .u8)
def papA(p:List Int):Array Value:=(pc p).toArray
def ec(x:Int×List Int):List Value:=.int .i64 x.1 :: pc x.2
def enA(x:Int×List Int):Array Value:=(ec x).toArray
def rc(es:List (Int×List Int)):List Value:=es.flatMap ec
def Ok32(es:List (Int×List Int)):Prop:=∀x ∈ es,x.2.length=32
theorem ec_len{x:Int×List Int}(h:x.2.length=32):(ec x).length=33:=by simp[ec,pc,h]
theorem rc_len:∀{es:List (Int×List Int)},Ok32 es->(rc es).length=es.length*33
 | [],_=>rfl
 | x :: es,h=>by
  have h1:=h x (List.mem_cons_self ..);have h2:=rc_len (es:=es) (fun y hy=>h y (List.mem_cons_of_mem _ hy));simp only[rc,List.flatMap_cons,List.length_append,List.length_cons]at h2 ⊢;rw[h2,ec_len h1];omega
theorem rc_take:∀{es:List (Int×List Int)} (n:Nat),Ok32 es->rc (es.take n)=(rc es).take (n*33)
 | [],n,_=>by simp[rc]
 | x :: es,0,_=>by simp[rc]
 | x :: es,n+1,h=>by
  have h1:=ec_len (h x (List.mem_cons_self ..));have h2:=rc_take (es:=es) n (fun y hy=>h y (List.mem_cons_of_mem _ hy));simp only[rc,List.take_succ_cons,List.flatMap_cons]at h2 ⊢;rw[h2,List.take_append,h1,List.take_of_length_le (by omega:(ec x).length<=(n+1)*33),show(n+1)*33-33=n*33 by omega]
theorem rc_get:∀{es:List (Int×List Int)} {i:Nat} {x:Int×List Int},Ok32 es->es[i]? = some x->∀j v,(ec x)[j]? = some v->(rc es)[i*33+j]? = some v
 | [],i,x,_,h,_,_,_=>by simp at h
 | y :: es,0,x,hk,h,j,v,hv=>by
  simp only[List.getElem?_cons_zero,Option.some.injEq]at h;subst h;have h1:=ec_len (hk y (List.mem_cons_self ..));have hj:j<(ec y).length:=(List.getElem?_eq_some_iff.1 hv).1;simp only[rc,List.flatMap_cons];rw[Nat.zero_mul,Nat.zero_add,List.getElem?_append_left hj];exact hv
 | y :: es,i+1,x,hk,h,j,v,hv=>by
  simp only[List.getElem?_cons_succ]at h;have h1:=ec_len (hk y (List.mem_cons_self ..));have h2:=rc_get (fun z hz=>hk z (List.mem_cons_of_mem _ hz)) h j v hv;simp only[rc,List.flatMap_cons]at h2 ⊢;rw[List.getElem?_append_right o_,h1,show(i+1)*33+j-33=i*33+j by omega];exact h2
def Reads(w:World)(A:Option Addr)(es:List (Int×List Int)):Prop:=
 0<es.length->∃b o,A=some ⟨b,o,none⟩/\b<w.heap.size/\w.rangeAt b o (rc es)
theorem Reads.below(h:Reads w A es)(hb:Bl w w'):Reads w' A es:=fun hp=>by
 obtain⟨b,o,e,hlt,hr⟩:=h hp
 exact⟨b,o,e,Nat.lt_of_lt_of_le hlt hb.size,fun j v hv=>by rw[hb.cell hlt];exact hr j v hv⟩
theorem Reads.entry{o:Nat}{x:Int×List Int}(h:w.rangeAt b o (rc es))(hk:Ok32 es)(hi:es[i]? = some x):w.rangeAt b (o+i*33) (ec x):=fun j v hv=>by
 have:=h (i*33+j) v (rc_get hk hi j v hv)
 rw[show o+i*33+j=o+(i*33+j) by omega]
 exact this
def idx(es:List (Int×List Int))(e:Int):Int:=match es.findIdx? (fun x=>x.1==e) with|some i=>i|none=>-1
theorem info59:(prog.info? 149).map (·.size)=some 33:=by kernel_rfl
theorem info27:(prog.info? 43).map (·.size)=some 32:=by kernel_rfl
theorem find_calls(A:Option Addr)(n c:Nat)(es:List (Int×List Int))(e:Int)(cb co:Nat)(w:World)(hn:es.length=n)(hm:n<=9223372036854775807)(hk:Ok32 es)(hr:Reads w A es)(hc:w.cell? ⟨cb,co,none⟩=some (.int .i64 e))(hlt:cb<w.heap.size): Calls prog 156 #[.slice A n c,.func (.func 157) #[] #[.pointer (some ⟨cb,co,none⟩)]] w fun r w'=>r=.returned (.int .i64 (idx es e))/\Bl w w':=by
 go_enter func156,ntmps156
 go_wp2;go_loopw [8] (fun v wr=>∃k:Nat,k<=n/\v=.int .i64 k/\Hid (∀j,j<k->∀x,es[j]? = some x->(x.1==e)=false)/\Hid (Bl w wr)) (fun v _=>n-(intOf v).toNat)
 case atStart=>exact⟨0,Nat.zero_le _,rfl,fun j h=>by omega,Below.refl _ _⟩
 case round=>
  obtain⟨k,hkn,rfl,hno,hb⟩:=hrel;by_cases hlt2:k<n
  · obtain⟨b,o,rfl,hbl,hrg⟩:=hr o_;have hx:es[k]? = some es[k]:=List.getElem?_eq_getElem o_;obtain⟨x,hxe⟩:∃x,es[k]=x:=⟨_,rfl⟩;rw[hxe]at hx;have HX:=hd_ hx;have hrange:wr.rangeAt b (o+k*33) (ec x):=Reads.entry (fun j v hv=>by rw[hb.out.cell hbl];exact hrg j v hv) hk hx;have hsz:(ec x).length=33:=ec_len (hk x (by rw[<-hxe];exact List.getElem_mem _));(have hc':wr.cell? ⟨cb,co,none⟩=some (.int .i64 e):=by rw[hb.out.cell hlt];exact hc);have hlt':cb<wr.heap.size:=Nat.lt_of_lt_of_le hlt hb.out.size;have h0:Hid (∀h:0<(ec x).toArray.size,(ec x).toArray[0]=.int .i64 x.1):=fun _=>rfl;(have hsz0:Hid (0<(ec x).toArray.size):=by show 0<_;simp[hsz]);have HR:=hd_ hrange;have HS:=hd_ hsz;clear hx hxe hrange hsz hr hrg hn hk
    cases hq:x.1==e with
    | true=>
     have HQ:=hd_ hq;clear hq;go_wp2_with (first|((refine wpList_load_mid rfl 149 (.tmp 14) rr b (o+k*33) rr (ec x) _ HR.out underlying149 rfl ?hi ?_);(case hi=>(rw[HS.out];exact info59)))|(go_at_call 157;refine(eq_calls _ x.1 e cb co _ hc' hlt' hsz0 (h0 hsz0)).mono ?_;rintro r w2 ⟨rfl,hb2⟩;rw[HQ.out];have HB2:=hd_ hb2;clear hb2));go_ret;refine⟨?_,hb.out.trans (HB2.out.mono hb.out.size)⟩;(have:idx es e=(k:Int):=by unfold idx;(have:es.findIdx? (fun x=>x.1==e)=some k:=by rw[List.findIdx?_eq_some_iff_getElem];have hkl:k<es.length:=(List.getElem?_eq_some_iff.1 HX.out).1;refine⟨hkl,?_,fun j hj=>?_⟩;(· rw[(List.getElem?_eq_some_iff.1 HX.out).2];exact HQ.out);have:=hno j hj es[j] (List.getElem?_eq_getElem o_);simpa using this);rw[this]);rw[this];rfl
    | false=>
     have HQ:=hd_ hq;clear hq;go_wp2_with (first|((refine wpList_load_mid rfl 149 (.tmp 14) rr b (o+k*33) rr (ec x) _ HR.out underlying149 rfl ?hi ?_);(case hi=>(rw[HS.out];exact info59)))|(go_at_call 157;refine(eq_calls _ x.1 e cb co _ hc' hlt' hsz0 (h0 hsz0)).mono ?_;rintro r w2 ⟨rfl,hb2⟩;rw[HQ.out];have HB2:=hd_ hb2;clear hb2));go_roundw;case rel=>
      refine⟨k+1,by omega,by go_num,?_,hb.out.trans (HB2.out.mono hb.out.size)⟩;intro j hj y hy;by_cases hjk:j=k;(· subst hjk;have:=HX.out;rw[this]at hy;simp only[Option.some.injEq]at hy;rw[<-hy];exact HQ.out);exact hno j o_ y hy
     case measure=>simp[intOf];omega
  have hke:k=n:=by omega
  subst hke;have hb':=hb.out;have:idx es e = -1:=by unfold idx;(have:es.findIdx? (fun x=>x.1==e)=none:=by rw[List.findIdx?_eq_none_iff];intro x hx;obtain⟨j,hj,rfl⟩:=List.getElem_of_mem hx;exact hno j o_ _ (List.getElem?_eq_getElem hj));rw[this]
  have HI:=hd_ this;clear this hn hr;go_wp2;go_ret;exact⟨by rw[HI.out];rfl,hb'⟩
end Go.Proofs.YtppjnahcnofokaaGreat.B
namespace Go.Proofs.YtppjnahcnofokaaGreat.B
open Go.RowKit
open Go.Proofs.Tryz
variable{k:IntKind}{a:Act}{b i n B base m fuel D B':Nat}{l ch t0:List Int}{w w' w1 w2:World}{t:TypeId}{P:Program}{cs xs vs l3:List Value}{A A':Option Addr}{o oi:Oper}{e s f st fl:Int}{ops:Array Oper}{rest l0:List Oper}{v:Value}{r:Option Nat}{rs rs2:List (Option Addr×Nat×Nat×List Int)}{E:Prop}{ad ai go:List Bool}{N:Act->Prop}{place:Nat->Option (Nat×Nat)}{bad:Bool}{es es':List (Int×List Int)}{T:List TypeId}
def zeros:List Int:=List.replicate 32 0
def holdsW(w:World)(e:Int):World:=(w.alloc (.cells #[.int .i64 e] 3)).alloc (.cells (papA zeros) 43)
theorem holdsW_size(w:World)(e:Int):(holdsW w e).heap.size=w.heap.size+2:=by simp[holdsW]
theorem holdsW_below(w:World)(e:Int):Bl w (holdsW w e):=((Below.refl _ _).alloc (Nat.le_refl _) _).alloc s_ _
theorem holdsW_res(w:World)(e:Int):(holdsW w e).heap[w.heap.size+1]? = some (.cells (papA zeros) 43):=by
 show((w.heap.push _).push _)[w.heap.size+1]? = _;rw[Array.getElem?_push,if_pos s_]
theorem holdsW_box(w:World)(e:Int):(holdsW w e).cell? ⟨w.heap.size,0,none⟩=some (.int .i64 e):=by
 have:(holdsW w e).heap[w.heap.size]? = some (.cells #[.int .i64 e] 3):=by show((w.heap.push _).push _)[w.heap.size]? = _;rw[Array.getElem?_push,if_neg s_,Array.getElem?_push,if_pos rfl]
 rw[cell_of_row _ _ _ _ _ _ this];rfl
theorem papA_one(p:List Int):∀v ∈ pc p,v.oneCell'=true:=by
 intro v hv;simp only[pc,List.mem_map]at hv;obtain⟨n,_,rfl⟩:=hv;rfl
theorem papA_all(p:List Int):(papA p).all (·.oneCell')=true:=all_oneCell_toArray (papA_one p)
theorem papA_size{p:List Int}(h:p.length=32):(papA p).size=32:=by simp[papA,pc,h]
theorem there_of_block{cs:Array Value}(h:w.heap[b]? = some (.cells cs t (0,0))):w.there b 0 cs.size:=fun j hj=>by
 rw[Nat.zero_add,cell_of_row _ _ _ _ _ _ h]
 refine⟨?_,by simp[World.frozen?,h]⟩
 rw[Array.getElem?_eq_getElem hj]
 rfl
theorem below_setCells{a:World}(h:Below B a w)(hB:B<=b):∀(o:Nat) (vs:List Value),Below B a (w.setCells b o vs):=by
 intro o vs
 induction vs generalizing o w with
 | nil=>exact h
 | cons v vs ih=>exact ih (h.setCell hB v) (o+1)
def look(es:List (Int×List Int))(e:Int):List Int×Bool:=match es.find? (fun x=>x.1==e) with|some x=>(x.2,true)|none=>(zeros,false)
theorem look_none(h:es.findIdx? (fun x=>x.1==e)=none):look es e=(zeros,false):=by
 unfold look;rw[List.findIdx?_eq_none_iff]at h;rw[List.find?_eq_none.2 (fun x hx=>by simp[h x hx])]
theorem look_some(h:es.findIdx? (fun x=>x.1==e)=some i):∃x,es[i]? = some x/\look es e=(x.2,true):=by
 rw[List.findIdx?_eq_some_iff_getElem]at h;obtain⟨hi,h1,h2⟩:=h;refine⟨es[i],List.getElem?_eq_getElem hi,?_⟩;unfold look;have:es.find? (fun x=>x.1==e)=some es[i]:=by rw[List.find?_eq_some_iff_getElem];exact⟨h1,i,hi,rfl,fun j hj=>by simpa using h2 j hj⟩
 rw[this]
theorem holds_none(A:Option Addr)(c g:Nat)(es:List (Int×List Int))(e:Int)(w:World)(hg:g<w.heap.size)(h0:w.cell? ⟨g,0,none⟩=some (.slice A es.length c))(hm:es.length<=100)(hk:Ok32 es)(hr:Reads w A es)(hi:es.findIdx? (fun x=>x.1==e)=none): Calls prog 99 #[.pointer (some ⟨g,0,none⟩),.int .i64 e] w fun r w'=>r=.returned (.tuple #[.agg (papA zeros),.bool false])/\Bl w w':=by
 have HI:Hid (idx es e = -1):=by unfold idx;rw[hi];rfl
 clear hi;go_enter func99,ntmps99
 go_wp2_with fail;have hf:=find_calls A es.length c es e w.heap.size 0 (holdsW w e) rfl o_ hk (hr.below (holdsW_below w e)) (holdsW_box w e) (by rw[holdsW_size];omega);refine hf.mono ?_;clear hf hr h0;rintro r w2 ⟨rfl,hb⟩;rw[HI.out];have HB:Hid (Bl w w2):=(holdsW_below w e).trans (hb.mono (holdsW_below w e).size);have hres:w2.heap[w.heap.size+1]? = some (.cells (papA zeros) 43):=(hb.block _ (by rw[holdsW_size];omega)).trans (holdsW_res w e);have hth:=there_of_block hres;have HT:=hd_ hth;clear hb hres hth HI;go_wp2_with ((refine wpList_store_mid rfl 43 (.tmp 4) (.tmp 18) rr (w.heap.size+1) 0 (papA zeros) rr rr HT.out info27 (papA_all _) ?_));have hst:=HT.out
 have hload:(loadVar 43 ⟨w.heap.size+1,0,none⟩).run prog (w2.setCells (w.heap.size+1) 0 (papA zeros).toList)=.ok (.agg (papA zeros)) (w2.setCells (w.heap.size+1) 0 (papA zeros).toList):=
  run_loadVar_mid _ _ 0 43 (pc zeros) _ (World.rangeAt_setCells_same w2 _ 0 (pc zeros) hst) underlying43 rfl info27
 refine bodyPost_ret (v:=.tuple #[.agg (papA zeros),.bool false]) (by simp[results,results99,asAddr,hload]) rfl ⟨rfl,?_⟩;exact below_setCells HB.out o_ _ _
theorem holds_some(A:Option Addr)(c g:Nat)(es:List (Int×List Int))(e:Int)(w:World)(hg:g<w.heap.size)(h0:w.cell? ⟨g,0,none⟩=some (.slice A es.length c))(hm:es.length<=100)(hk:Ok32 es)(hr:Reads w A es)(i:Nat)(hi:es.findIdx? (fun x=>x.1==e)=some i)(x:Int×List Int)(hx:es[i]? = some x): Calls prog 99 #[.pointer (some ⟨g,0,none⟩),.int .i64 e] w fun r w'=>r=.returned (.tuple #[.agg (papA x.2),.bool true])/\Bl w w':=by
 have HI:Hid (idx es e=i):=by unfold idx;rw[hi];rfl
 have hil:i<es.length:=(List.getElem?_eq_some_iff.1 hx).1;have hx32:x.2.length=32:=hk x (List.mem_of_getElem? hx);obtain⟨b,o,rfl,hbl,hrg⟩:=hr o_;have HX:=hd_ hx;clear hi hx;go_enter func99,ntmps99
 go_wp2_with fail;have hf:=find_calls (some ⟨b,o,none⟩) es.length c es e w.heap.size 0 (holdsW w e) rfl o_ hk (hr.below (holdsW_below w e)) (holdsW_box w e) (by rw[holdsW_size];omega);refine hf.mono ?_;clear hf hr;rintro r w2 ⟨rfl,hb⟩;rw[HI.out];have HB:Hid (Bl w w2):=(holdsW_below w e).trans (hb.mono (holdsW_below w e).size);have hres:w2.heap[w.heap.size+1]? = some (.cells (papA zeros) 43):=(hb.block _ (by rw[holdsW_size];omega)).trans (holdsW_res w e);have HT:Hid (w2.there (w.heap.size+1) 0 (papA x.2).size):=by have:=there_of_block hres;rw[papA_size (by simp[zeros])]at this;rw[papA_size hx32];exact this
 have HR:Hid (w2.rangeAt b (o+i*33+1) (pc x.2)):=fun j v hv=>by have h1:=Reads.entry (w:=w2) (fun j v hv=>by rw[HB.out.cell hbl];exact hrg j v hv) hk HX.out (j+1) v (by simpa[ec] using hv);rw[show o+i*33+1+j=o+i*33+(j+1) by omega];exact h1
 have HL:Hid ((pc x.2).length=32):=by show _=_;simp[pc,hx32]
 have HS:Hid ((papA x.2).size=32):=papA_size hx32;have h0':w2.cell? ⟨g,0,none⟩=some (.slice (some ⟨b,o,none⟩) es.length c):=by rw[HB.out.cell hg];exact h0
 clear hb hres HI hrg HX hk hx32 h0;go_wp2_with (first|((refine wpList_load_mid rfl 43 (.tmp 25) rr b (o+i*33+1) rr (pc x.2) _ HR.out underlying43 rfl ?hi ?_);(case hi=>(rw[HL.out];exact info27)))|((refine wpList_store_mid rfl 43 (.tmp 4) (.tmp 26) rr (w.heap.size+1) 0 (papA x.2) rr rr HT.out ?hi (papA_all _) ?_);(case hi=>(rw[HS.out];exact info27))));have hst:=HT.out
 have hload:(loadVar 43 ⟨w.heap.size+1,0,none⟩).run prog (w2.setCells (w.heap.size+1) 0 (papA x.2).toList)=.ok (.agg (papA x.2)) (w2.setCells (w.heap.size+1) 0 (papA x.2).toList):=
  run_loadVar_mid _ _ 0 43 (pc x.2) _ (World.rangeAt_setCells_same w2 _ 0 (pc x.2) hst) underlying43 rfl (by rw[HL.out];exact info27)
 refine bodyPost_ret (v:=.tuple #[.agg (papA x.2),.bool true]) (by simp[results,results99,asAddr,hload]) rfl ⟨rfl,?_⟩;exact below_setCells HB.out o_ _ _
theorem holds_calls(A:Option Addr)(c g:Nat)(es:List (Int×List Int))(e:Int)(w:World)(hg:g<w.heap.size)(h0:w.cell? ⟨g,0,none⟩=some (.slice A es.length c))(hm:es.length<=100)(hk:Ok32 es)(hr:Reads w A es): Calls prog 99 #[.pointer (some ⟨g,0,none⟩),.int .i64 e] w fun r w'=>r=.returned (.tuple #[.agg (papA (look es e).1),.bool (look es e).2])/\Bl w w':=by
 cases hi:es.findIdx? (fun x=>x.1==e) with
 | none=>
  rw[look_none hi];exact holds_none A c g es e w hg h0 hm hk hr hi
 | some i=>
  obtain⟨x,hx,hl⟩:=look_some hi;rw[hl];exact holds_some A c g es e w hg h0 hm hk hr i hi x hx
end Go.Proofs.YtppjnahcnofokaaGreat.B
namespace Go.Proofs.YtppjnahcnofokaaGreat.B
open Go.RowKit
open Go.Proofs.Tryz
variable{k:IntKind}{a:Act}{b i n B base m fuel D B':Nat}{l ch t0:List Int}{w w' w1 w2:World}{t:TypeId}{P:Program}{cs xs vs l3:List Value}{A A':Option Addr}{o oi:Oper}{e s f st fl:Int}{ops:Array Oper}{rest l0:List Oper}{v:Value}{r:Option Nat}{rs rs2:List (Option Addr×Nat×Nat×List Int)}{E:Prop}{ad ai go:List Bool}{N:Act->Prop}{place:Nat->Option (Nat×Nat)}{bad:Bool}{es es':List (Int×List Int)}{T:List TypeId}
theorem info59z:(prog.info? 149).map (fun i=>(i.zero,i.size,i.bytes))=some (some (.agg (enA (0,zeros))),33,40):=by kernel_rfl
theorem rc_one(es:List (Int×List Int)):∀v ∈ rc es,v.oneCell'=true:=by
 intro v hv;simp only[rc,List.mem_flatMap,ec,List.mem_cons]at hv;obtain⟨x,_,rfl|h⟩:=hv
 · rfl
 exact papA_one _ v h
def Own(w:World)(base:Nat)(v:Value)(es:List (Int×List Int)):Prop:=w.ownsRow base 149 33 v es.length (rc es)
theorem Own.reads(h:Own w base v es):∃A c,v=.slice A es.length c/\es.length<=c/\Reads w A es:=by
 unfold Own at h;rcases h.2 with⟨rfl,h0⟩|⟨g,cap,cur,rfl,hb,hg,hn,hm,hs,ht⟩
 · exact⟨none,0,by rw[h0],by omega,fun h=>by omega⟩
 refine⟨_,cap,rfl,hn,fun _=>⟨g,0,rfl,(Array.getElem?_eq_some_iff.1 hg).1,fun j v hv=>?_⟩⟩;have hj:j<(rc es).length:=(List.getElem?_eq_some_iff.1 hv).1;rw[h.1]at hj;rw[Nat.zero_add,h.cellAt j hj];exact hv
theorem info_parts59:∃i,prog.info? 149=some i/\i.zero=some (.agg (enA (0,zeros)))/\i.size=33/\i.bytes=40:=by
 obtain⟨i,hi,h0,h1,h2⟩:=info_parts info59z;exact⟨i,hi,h0,h1,h2⟩
theorem zero_size:(Value.agg (enA (0,zeros))).cells.size=33:=by simp[Value.cells,enA,ec,pc,zeros]
theorem clone_calls(A:Option Addr)(n c:Nat)(es:List (Int×List Int))(w:World)(hn:es.length=n)(hm:n<=100)(hk:Ok32 es)(hr:Reads w A es): Calls prog 75 #[.slice A n c] w fun r w'=>∃v,r=.returned v/\Own w' w.heap.size v es/\Bl w w':=by
 have hq:=fun(w:World)=>Lib.run_eql_slice_nil (P:=prog) (w:=w) 96 149 A n c 0 0 underlying96
 cases A with
 | none=>
  have he:es=[]:=by(rcases Nat.eq_zero_or_pos es.length with h|h);(· exact List.eq_nil_of_length_eq_zero h);obtain⟨b,o,e,_⟩:=hr h;exact absurd e s_
  subst he;clear hr hk hm;go_enter func75,ntmps75
  go_wp2;go_ret;exact⟨_,rfl,World.ownsRow_nil _ _ _ _,Below.refl _ _⟩
 | some ad=>
  obtain⟨i0,hi,hz0,hz1,hz2⟩:=info_parts59;have hown:(w.alloc (.cells #[] 149)).ownsRow w.heap.size 149 33 (.slice (some ⟨w.heap.size,0,none⟩) 0 0) 0 []:=World.ownsRow_lit w #[] 0 (Nat.le_refl _) (by unfold maxLen;omega) rfl;have hnews:∀j u,(rc es)[j]? = some u->(w.alloc (.cells #[] 149)).cell? (ad.add j)=some u:=fun j u hu=>by(rcases Nat.eq_zero_or_pos es.length with h|h);(· have:es=[]:=List.eq_nil_of_length_eq_zero h;subst this;simp[rc]at hu);obtain⟨b,o,e,hlt,hrg⟩:=hr h;(injection e with e);subst e;rw[Addr.add_mid,World.cell?_alloc_past _ _ _ hlt];exact hrg j u hu
  have HO:=hd_ hown;have HN:=hd_ hnews;have HL:Hid ((rc es).length=n*33):=by show _=_;rw[rc_len hk,hn]
  clear hown hnews hr hk;go_enter func75,ntmps75
  go_wp2_with (at_builtin;refine wpList_append_own_at _ rfl (.tmp 5) (.tmp 6) 96 rfl w.heap.size 149 i0 (.agg (enA (0,zeros))) 33 40 underlying96 hi hz0 hz1 hz2 zero_size o_ (.slice (some ⟨w.heap.size,0,none⟩) 0 0) 0 [] rfl HO.out ad n c (rc es) rfl HL.out HN.out (rc_one es) (by unfold maxLen;omega) o_ s_ ?_;intro v' w1 hown1 hgrow hnil hat);go_ret;refine⟨_,rfl,?_,?_⟩
  · unfold Own;rw[hn];simpa using hown1
  exact((Below.refl _ _).alloc (Nat.le_refl _) _).grown hgrow s_ (fun k h=>by simp[Value.ownBlock]at h;omega)
end Go.Proofs.YtppjnahcnofokaaGreat.B
namespace Go.Proofs.YtppjnahcnofokaaGreat.B
open Go.RowKit
open Go.Proofs.Tryz
variable{k:IntKind}{a:Act}{b i n B base m fuel D B':Nat}{l ch t0:List Int}{w w' w1 w2:World}{t:TypeId}{P:Program}{cs xs vs l3:List Value}{A A':Option Addr}{o oi:Oper}{e s f st fl:Int}{ops:Array Oper}{rest l0:List Oper}{v:Value}{r:Option Nat}{rs rs2:List (Option Addr×Nat×Nat×List Int)}{E:Prop}{ad ai go:List Bool}{N:Act->Prop}{place:Nat->Option (Nat×Nat)}{bad:Bool}{es es':List (Int×List Int)}{T:List TypeId}
theorem info5:(prog.info? 5).map (fun i=>(i.zero,i.size,i.bytes))=some (some (.int .u8 0),1,1):=by kernel_rfl
theorem papA_get(p:List Int)(j:Nat)(x:Int)(h:p[j]? = some x):(papA p)[j]? = some (.int .u8 x):=by
 simp[papA,pc,h]
theorem run_part5(w:World)(xs:Array Value)(j:Nat)(v:Value)(h:xs[j]? = some v):(part 5 xs j).run prog w=.ok v w:=
 run_part_plain w kk h
theorem run_items(d:Nat)(p q:List Int)(w:World):∀is:List Nat,(∀j ∈ is,j<p.length/\j<q.length)->(Op.eqItems (d+1) 5 1 (papA p) (papA q) is).run prog w=.ok (is.all fun j=>p[j]? == q[j]?) w
 | [],_=>by simp[Op.eqItems]
 | j :: is,h=>by
  obtain⟨hp,hq⟩:=h j (List.mem_cons_self ..);have h1:p[j]? = some p[j]:=List.getElem?_eq_getElem hp;have h2:q[j]? = some q[j]:=List.getElem?_eq_getElem hq;have ih:=run_items d p q w is (fun k hk=>h k (List.mem_cons_of_mem _ hk));have e1:=run_part5 w (papA p) j _ (papA_get p j _ h1);have e2:=run_part5 w (papA q) j _ (papA_get q j _ h2);have e3:=run_equalIn_int (P:=prog) w d 5 .u8 .u8 p[j] q[j] underlying5;simp only[Op.eqItems,Nat.mul_one,Sem.run_bind,e1,e2,e3,Result.andThen_ok,List.all_cons,h1,h2]
  cases hpq:(p[j]==q[j]) with
  | true=>simp[ih,hpq]
  | false=>simp[hpq]
theorem run_eq_hash(p q:List Int)(hp:p.length=32)(hq:q.length=32)(w:World):(binOp .eql 43 (.agg (papA p)) (.agg (papA q))).run prog w=.ok (.bool (p==q)) w:=by
 obtain⟨i,hi,_,_,_⟩:=info_parts info5;have hc:prog.cellsOf 5=1:=by kernel_rfl
 have h:=run_equalIn_array (P:=prog) w 9999 (papA p) (papA q) underlying43 hi;rw[hc,run_items 9998 p q w (List.range 32) (fun j hj=>by simp at hj;omega)]at h;have hall:((List.range 32).all fun j=>p[j]? == q[j]?)=(p==q):=by
  rw[Bool.eq_iff_iff,List.all_eq_true,beq_iff_eq];constructor
  · intro ha;apply List.ext_getElem? ;intro j;by_cases hj:j<32;(· simpa using ha j (by simpa using hj));rw[List.getElem?_eq_none o_,List.getElem?_eq_none o_]
  rintro rfl j _;simp
 rw[hall]at h;simp only[binOp];simp[Op.equal,Op.maxDepth,h]
end Go.Proofs.YtppjnahcnofokaaGreat.B
namespace Go.Proofs.YtppjnahcnofokaaGreat.B
open Go.RowKit
open Go.Proofs.Tryz
variable{k:IntKind}{a:Act}{b i n B base m fuel D B':Nat}{l ch t0:List Int}{w w' w1 w2:World}{t:TypeId}{P:Program}{cs xs vs l3:List Value}{A A':Option Addr}{o oi:Oper}{e s f st fl:Int}{ops:Array Oper}{rest l0:List Oper}{v:Value}{r:Option Nat}{rs rs2:List (Option Addr×Nat×Nat×List Int)}{E:Prop}{ad ai go:List Bool}{N:Act->Prop}{place:Nat->Option (Nat×Nat)}{bad:Bool}{es es':List (Int×List Int)}{T:List TypeId}
structure BookAt (w:World) (base g:Nat) (v:Value) (es:List (Int×List Int)) (st fl:Int):Prop where
 lo:base<=g
 blk:w.heap[g]? = some (.cells #[v,.int .i64 st,.int .i64 fl] 98 (0,0))
 own:Own w base v es
 ok:Ok32 es
 len:es.length<=100
structure Chg (w w':World) (g:Nat) (r:Option Nat):Prop where
 os:w'.os=w.os
 tape:w'.tape=w.tape
 output:w'.output=w.output
 size:w.heap.size<=w'.heap.size
 block:∀k,k<w.heap.size->k≠g->some k≠r->w'.heap[k]? = w.heap[k]?
theorem Chg.of_below(h:Bl w w')(g:Nat)(r:Option Nat):Chg w w' g r:=⟨h.os,h.tape,h.output,h.size,fun k hk _ _=>h.block k hk⟩
theorem BookAt.lt{g:Nat}(h:BookAt w base g v es st fl):g<w.heap.size:=(Array.getElem?_eq_some_iff.1 h.blk).1
theorem BookAt.cell{g:Nat}(h:BookAt w base g v es st fl)(i:Nat):w.cell? ⟨g,i,none⟩ = #[v,.int .i64 st,.int .i64 fl][i]?:=cell_of_row _ _ _ _ _ _ h.blk
theorem BookAt.free{g:Nat}(h:BookAt w base g v es st fl)(i:Nat):w.frozen? ⟨g,i,none⟩=false:=by simp[World.frozen?,h.blk]
theorem BookAt.below{g:Nat}(h:BookAt w base g v es st fl)(hb:Bl w w'):BookAt w' base g v es st fl:=
 ⟨h.lo,(hb.block g h.lt).trans h.blk,h.own.kept (row:=none) ⟨hb.os,hb.tape,hb.output,hb.size,fun k hk _=>hb.block k hk⟩ (by cases hv:v.ownBlock<;>simp),h.ok,h.len⟩
theorem BookAt.apart{g:Nat}(h:BookAt w base g v es st fl):v.ownBlock≠some g:=by
 intro e;rcases h.own.2 with⟨rfl,_⟩|⟨g',cap,cur,rfl,_,hg,_⟩
 · simp[Value.ownBlock]at e
 simp only[Value.ownBlock,Option.some.injEq]at e;subst e;rw[h.blk]at hg;simp at hg
theorem BookAt.far{g:Nat}(h:BookAt w base g v es st fl){g':Nat}(hc:Chg w w' g' r)(h1:g≠g')(h2:some g≠r)(h3:v.ownBlock≠some g')(h4:v.ownBlock=none\/v.ownBlock≠r):BookAt w' base g v es st fl:=by
 refine⟨h.lo,(hc.block g h.lt h1 h2).trans h.blk,?_,h.ok,h.len⟩;refine⟨h.own.1,?_⟩;rcases h.own.2 with h0|⟨k,cap,cur,rfl,hk,hg,r1,r2,r3,r4⟩
 · exact Or.inl h0
 refine Or.inr ⟨k,cap,cur,rfl,hk,(hc.block k (Array.getElem?_eq_some_iff.1 hg).1 (fun e=>h3 (by rw[<-e];rfl)) ?_).trans hg,r1,r2,r3,r4⟩;rcases h4 with h4|h4
 · simp[Value.ownBlock]at h4
 exact h4
def writeOf(es:List (Int×List Int))(e:Int)(p:List Int):Int×List (Int×List Int):=
 if e<0\/1099511627776<e then (1,es) else
 if (look es e).2=true then (if (look es e).1=p then (0,es) else (9,es)) else
 if 100<=es.length then (12,es) else (0,es ++ [(e,p)])
theorem write_out(g:Nat)(e:Int)(p:List Int)(w:World)(he:e<0\/1099511627776<e): Calls prog 64 #[.pointer (some ⟨g,0,none⟩),.int .i64 e,.agg (papA p)] w fun r w'=>r=.returned (.int .i64 1)/\Bl w w':=by
 by_cases h1:e<0
 · clear he;(go_enter func64,ntmps64);go_wp2;go_ret;exact⟨rfl,(Below.refl _ _).alloc (Nat.le_refl _) _⟩
 have h2:1099511627776<e:=by omega
 clear he;go_enter func64,ntmps64
 go_wp2;go_ret;exact⟨rfl,(Below.refl _ _).alloc (Nat.le_refl _) _⟩
theorem look_len(hk:Ok32 es)(e:Int):(look es e).1.length=32:=by
 unfold look;split
 · rename_i x h;exact hk x (List.mem_of_find?_eq_some h)
 simp[zeros]
section
variable {P:Program} {ops:Array Oper} {rest:List Oper} {o:Oper} {a:Act} {Q:Exit->Act->World->Prop} {W:World}
theorem unguard(hw:Region.wanted o (yielded ops a.tmps)=true)(h:wpList P ops Q ({o with guard:=none } :: rest) a W):wpList P ops Q (o :: rest) a W:=by
 have h1:Region.wanted { o with guard:=none } (yielded ops a.tmps)=true:=rfl;unfold wpList at h ⊢;rw[if_pos h1]at h;rw[if_pos hw];exact h
end
def heldW(w:World)(h:List Int):World:=(w.alloc (.cells (papA zeros) 43)).setCells w.heap.size 0 (papA h).toList
theorem alloc_there(w:World)(h:List Int)(hh:h.length=32):(w.alloc (.cells (papA zeros) 43)).there w.heap.size 0 (papA h).size:=by
 have:=there_of_block (heap_alloc_new w (.cells (papA zeros) 43));rw[papA_size (by simp[zeros])]at this;rw[papA_size hh];exact this
theorem heldW_below(w:World)(h:List Int):Bl w (heldW w h):=below_setCells ((Below.refl _ _).alloc (Nat.le_refl _) _) (Nat.le_refl _) _ _
theorem heldW_reads(w:World)(h:List Int)(hh:h.length=32):(heldW w h).rangeAt w.heap.size 0 (pc h):=World.rangeAt_setCells_same _ _ 0 (pc h) (alloc_there w h hh)
theorem range_of_block{fr:Nat×Nat}(h:w.heap[b]? = some (.cells cs.toArray t fr)):w.rangeAt b 0 cs:=fun j v hv=>by
 rw[Nat.zero_add,cell_of_row _ _ _ _ _ _ h]
 simpa using hv
theorem write_found(base g:Nat)(v:Value)(es:List (Int×List Int))(st fl e:Int)(p:List Int)(w:World)(hp:p.length=32)(hB:BookAt w base g v es st fl)(h1:0<=e)(h2:e<=1099511627776)(hl:(look es e).2=true)(q:Bool)(hq:((look es e).1==p)=q): Calls prog 64 #[.pointer (some ⟨g,0,none⟩),.int .i64 e,.agg (papA p)] w fun r w'=>r=.returned (.int .i64 (if q=true then 0 else 9))/\Bl w w':=by
 obtain⟨A,c,rfl,_,hr⟩:=hB.own.reads;have hb1:Bl w (w.alloc (.cells (papA p) 43)):=(Below.refl _ _).alloc (Nat.le_refl _) _;have hB1:=hB.below hb1;have hh:=holds_calls A c g es e (w.alloc (.cells (papA p) 43)) hB1.lt (by rw[hB1.cell];rfl) hB.len hB.ok (hr.below hb1);rw[hl]at hh;have h32:=look_len hB.ok e;generalize (look es e).1=h at *;have HQ:=hd_ hq;have HH:=hd_ hh;have heq:∀w:World,(binOp .eql 43 (.agg (pc h).toArray) (.agg (pc p).toArray)).run prog w=.ok (.bool q) w:=fun w=>by rw[<-hq];exact run_eq_hash h p h32 hp w
 have HL:Hid ((prog.info? 43).map (·.size)=some (papA h).size):=by show _=_;rw[papA_size h32];exact info27
 have HLh:Hid ((prog.info? 43).map (·.size)=some (pc h).length):=by show _=_;rw[pc,List.length_map,h32];exact info27
 have HLp:Hid ((prog.info? 43).map (·.size)=some (pc p).length):=by show _=_;rw[pc,List.length_map,hp];exact info27
 have HT:Hid (∀w:World,(w.alloc (.cells (papA zeros) 43)).there w.heap.size 0 (papA h).size):=fun w=>alloc_there w h h32;have HR1:Hid (∀w:World,(heldW w h).rangeAt w.heap.size 0 (pc h)):=fun w=>heldW_reads w h h32;clear hB hr hB1 hh hl hp hq hb1 h32;go_enter func64,ntmps64
 go_wp2_with fail;refine HH.out.mono ?_;clear HH;rintro r w2 ⟨rfl,hb⟩;have HB:Hid (Bl w w2):=((Below.refl _ _).alloc (Nat.le_refl _) _).trans (hb.mono s_);have hres:w2.heap[w.heap.size]? = some (.cells (papA p) 43):=(hb.block _ s_).trans (heap_alloc_new _ _);have hlt:w.heap.size<w2.heap.size:=(Array.getElem?_eq_some_iff.1 hres).1;have HR2:Hid ((heldW w2 h).rangeAt w.heap.size 0 (pc p)):=range_of_block (((heldW_below w2 h).block _ hlt).trans hres);clear hb hres hlt
 cases q with
 | true=>
  go_wp2_with (first|(refine wpList_store_mid rfl 43 (.tmp 7) (.tmp 23) rr w2.heap.size 0 (papA h) rr rr (HT.out w2) HL.out (papA_all _) ?_)|((refine unguard rr ?_);(refine wpList_load_mid rfl 43 (.tmp 7) rr w2.heap.size 0 rr (pc h) _ (HR1.out w2) underlying43 rfl HLh.out ?_))|((refine unguard rr ?_);(refine wpList_load_mid rfl 43 (.tmp 5) rr w.heap.size 0 rr (pc p) _ HR2.out underlying43 rfl HLp.out ?_)));go_ret;exact⟨rfl,HB.out.trans ((heldW_below _ _).mono HB.out.size)⟩
 | false=>
  go_wp2_with (first|(refine wpList_store_mid rfl 43 (.tmp 7) (.tmp 23) rr w2.heap.size 0 (papA h) rr rr (HT.out w2) HL.out (papA_all _) ?_)|((refine unguard rr ?_);(refine wpList_load_mid rfl 43 (.tmp 7) rr w2.heap.size 0 rr (pc h) _ (HR1.out w2) underlying43 rfl HLh.out ?_))|((refine unguard rr ?_);(refine wpList_load_mid rfl 43 (.tmp 5) rr w.heap.size 0 rr (pc p) _ HR2.out underlying43 rfl HLp.out ?_)));go_ret;exact⟨rfl,HB.out.trans ((heldW_below _ _).mono HB.out.size)⟩
theorem write_full(base g:Nat)(v:Value)(es:List (Int×List Int))(st fl e:Int)(p:List Int)(w:World)(hB:BookAt w base g v es st fl)(h1:0<=e)(h2:e<=1099511627776)(hl:(look es e).2=false)(h100:100<=es.length): Calls prog 64 #[.pointer (some ⟨g,0,none⟩),.int .i64 e,.agg (papA p)] w fun r w'=>r=.returned (.int .i64 12)/\Bl w w':=by
 obtain⟨A,c,rfl,_,hr⟩:=hB.own.reads;have hb1:Bl w (w.alloc (.cells (papA p) 43)):=(Below.refl _ _).alloc (Nat.le_refl _) _;have hB1:=hB.below hb1;have hh:=holds_calls A c g es e (w.alloc (.cells (papA p) 43)) hB1.lt (by rw[hB1.cell];rfl) hB.len hB.ok (hr.below hb1);rw[hl]at hh;have h32:=look_len hB.ok e;generalize (look es e).1=hs at *;have HH:=hd_ hh;have HL:Hid ((prog.info? 43).map (·.size)=some (papA hs).size):=by show _=_;rw[papA_size h32];exact info27
 have HT:Hid (∀w:World,(w.alloc (.cells (papA zeros) 43)).there w.heap.size 0 (papA hs).size):=fun w=>alloc_there w hs h32;have HBk:=hd_ hB;clear hB hr hB1 hh hl hb1 h32;go_enter func64,ntmps64
 go_wp2_with fail;refine HH.out.mono ?_;clear HH;rintro r w2 ⟨rfl,hb⟩;have HB:Hid (Bl w w2):=((Below.refl _ _).alloc (Nat.le_refl _) _).trans (hb.mono s_);have hcell:(heldW w2 hs).cell? ⟨g,0,none⟩=some (.slice A es.length c):=by rw[(HB.out.trans ((heldW_below w2 hs).mono HB.out.size)).cell HBk.out.lt,HBk.out.cell];rfl
 obtain⟨w3,hw3⟩:=ex_ (heldW w2 hs);rw[<-hw3]at hcell;have HW:=hd_ hw3;clear hb hw3;go_wp2_with (first|((refine wpList_store_mid rfl 43 (.tmp 7) (.tmp 23) rr w2.heap.size 0 (papA hs) rr rr (HT.out w2) HL.out (papA_all _) ?_);change wpList _ _ _ _ _ (heldW w2 hs);rw[<-HW.out]));go_ret;exact⟨rfl,by rw[HW.out];exact HB.out.trans ((heldW_below _ _).mono HB.out.size)⟩
end Go.Proofs.YtppjnahcnofokaaGreat.B
namespace Go.Proofs.YtppjnahcnofokaaGreat.B
open Go.RowKit
open Go.Proofs.Tryz
variable{k:IntKind}{a:Act}{b i n B base m fuel D B':Nat}{l ch t0:List Int}{w w' w1 w2:World}{t:TypeId}{P:Program}{cs xs vs l3:List Value}{A A':Option Addr}{o oi:Oper}{e s f st fl:Int}{ops:Array Oper}{rest l0:List Oper}{v:Value}{r:Option Nat}{rs rs2:List (Option Addr×Nat×Nat×List Int)}{E:Prop}{ad ai go:List Bool}{N:Act->Prop}{place:Nat->Option (Nat×Nat)}{bad:Bool}{es es':List (Int×List Int)}{T:List TypeId}
theorem list32(p:List Int)(h:p.length=32):∃a0 a1 a2 a3 a4 a5 a6 a7 a8 a9 a10 a11 a12 a13 a14 a15 a16 a17 a18 a19 a20 a21 a22 a23 a24 a25 a26 a27 a28 a29 a30 a31:Int,p=[a0,a1,a2,a3,a4,a5,a6,a7,a8,a9,a10,a11,a12,a13,a14,a15,a16,a17,a18,a19,a20,a21,a22,a23,a24,a25,a26,a27,a28,a29,a30,a31]:=by
 match p,h with
 | [a0,a1,a2,a3,a4,a5,a6,a7,a8,a9,a10,a11,a12,a13,a14,a15,a16,a17,a18,a19,a20,a21,a22,a23,a24,a25,a26,a27,a28,a29,a30,a31],_=>exact⟨_,_,_,_,_,_,_,_,_,_,_,_,_,_,_,_,_,_,_,_,_,_,_,_,_,_,_,_,_,_,_,_,rfl⟩
theorem built59_at(e:Int)(a0 a1 a2 a3 a4 a5 a6 a7 a8 a9 a10 a11 a12 a13 a14 a15 a16 a17 a18 a19 a20 a21 a22 a23 a24 a25 a26 a27 a28 a29 a30 a31:Int):prog.built 149 [(0,.int .i64 e),(1,.agg (papA [a0,a1,a2,a3,a4,a5,a6,a7,a8,a9,a10,a11,a12,a13,a14,a15,a16,a17,a18,a19,a20,a21,a22,a23,a24,a25,a26,a27,a28,a29,a30,a31]))]=some (enA (e,[a0,a1,a2,a3,a4,a5,a6,a7,a8,a9,a10,a11,a12,a13,a14,a15,a16,a17,a18,a19,a20,a21,a22,a23,a24,a25,a26,a27,a28,a29,a30,a31])):=by kernel_rfl
theorem run_build59(e:Int)(p:List Int)(hp:p.length=32)(w:World):(Instr.build 149 #[(0,.int .i64 e),(1,.agg (papA p))]).run prog w=.ok (.agg (enA (e,p))) w:=by
 obtain⟨a0,a1,a2,a3,a4,a5,a6,a7,a8,a9,a10,a11,a12,a13,a14,a15,a16,a17,a18,a19,a20,a21,a22,a23,a24,a25,a26,a27,a28,a29,a30,a31,rfl⟩:=list32 p hp;exact run_build w 149 _ _ (built59_at e _ _ _ _ _ _ _ _ _ _ _ _ _ _ _ _ _ _ _ _ _ _ _ _ _ _ _ _ _ _ _ _)
theorem fill59_at(e:Int)(a0 a1 a2 a3 a4 a5 a6 a7 a8 a9 a10 a11 a12 a13 a14 a15 a16 a17 a18 a19 a20 a21 a22 a23 a24 a25 a26 a27 a28 a29 a30 a31:Int):Instr.fill (fun i=>some (i*33,33)) ((Array.range (1*33)).map ((Value.agg (enA (0,zeros))).cells[· % (Value.agg (enA (0,zeros))).cells.size]!)) [(0,.agg (enA (e,[a0,a1,a2,a3,a4,a5,a6,a7,a8,a9,a10,a11,a12,a13,a14,a15,a16,a17,a18,a19,a20,a21,a22,a23,a24,a25,a26,a27,a28,a29,a30,a31])))]=some (enA (e,[a0,a1,a2,a3,a4,a5,a6,a7,a8,a9,a10,a11,a12,a13,a14,a15,a16,a17,a18,a19,a20,a21,a22,a23,a24,a25,a26,a27,a28,a29,a30,a31])):=by kernel_rfl
theorem run_bs59(x:Int×List Int)(hp:x.2.length=32)(w:World):(Instr.buildSlice 96 1 #[(0,.agg (enA x))]).run prog w=.ok (.slice (some ⟨w.heap.size,0,none⟩) 1 1) (w.alloc (.cells (enA x) 149)):=by
 obtain⟨e,p⟩:=x;obtain⟨a0,a1,a2,a3,a4,a5,a6,a7,a8,a9,a10,a11,a12,a13,a14,a15,a16,a17,a18,a19,a20,a21,a22,a23,a24,a25,a26,a27,a28,a29,a30,a31,rfl⟩:=list32 p hp;obtain⟨i,hi,hz,hs,_⟩:=info_parts59;refine run_buildSlice w 96 149 1 _ _ i (.agg (enA (0,zeros))) underlying96 hi hz (by rw[hs];decide) (by rw[hs];decide) ?_;rw[hs];exact fill59_at e _ _ _ _ _ _ _ _ _ _ _ _ _ _ _ _ _ _ _ _ _ _ _ _ _ _ _ _ _ _ _ _
def mkP(f:Fin 32->Int):List Int:=List.ofFn f
theorem mkP_len(f:Fin 32->Int):(mkP f).length=32:=by simp only[mkP,List.length_ofFn]
theorem mkP_of(p:List Int)(h:p.length=32):∃f,p=mkP f:=⟨fun i=>p[i.1]'o_,by
 apply List.ext_getElem
 · rw[mkP_len,h]
 · intro i h1 h2
   simp only[mkP,List.getElem_ofFn]⟩
theorem run_build59'(e:Int)(f:Fin 32->Int)(w:World):(Instr.build 149 #[(0,.int .i64 e),(1,.agg (pc (mkP f)).toArray)]).run prog w=.ok (.agg (enA (e,mkP f))) w:=run_build59 e _ (mkP_len f) w
theorem run_bs59'(e:Int)(f:Fin 32->Int)(w:World):(Instr.buildSlice 96 1 #[(0,.agg (enA (e,mkP f)))]).run prog w=.ok (.slice (some ⟨w.heap.size,0,none⟩) 1 1) (w.alloc (.cells (enA (e,mkP f)) 149)):=run_bs59 (e,mkP f) (mkP_len f) w
end Go.Proofs.YtppjnahcnofokaaGreat.B
namespace Go.Proofs.YtppjnahcnofokaaGreat.B
open Go.RowKit Go.Proofs.YtppjnahcnofokaaGreatW.PrintWords Go.Proofs.YtppjnahcnofokaaGreatW.PrintLast
open Go.Proofs.Tryz
variable{k:IntKind}{a:Act}{b i n B base m fuel D B':Nat}{l ch t0:List Int}{w w' w1 w2:World}{t:TypeId}{P:Program}{cs xs vs l3:List Value}{A A':Option Addr}{o oi:Oper}{e s f st fl:Int}{ops:Array Oper}{rest l0:List Oper}{v:Value}{r:Option Nat}{rs rs2:List (Option Addr×Nat×Nat×List Int)}{E:Prop}{ad ai go:List Bool}{N:Act->Prop}{place:Nat->Option (Nat×Nat)}{bad:Bool}{es es':List (Int×List Int)}{T:List TypeId}
attribute [local go_sem ↓] run_build59' run_bs59' Go.wp_at_zero Go.wp_at_succ
def write.T10:Bool×List (List Nat×List Nat):=(true,[([],[]),([],[]),([1],[1]),([2],[2]),([3],[3]),([],[]),([],[]),([5,6],[5,6]),([7],[7]),([4,8],[4,8]),([0,0,1,2,3,4,5,6,7,8,9],[0]),([10,0,1,2,3,4,5,6,7,8,9],[10]),([11,9,9,0,1,2,3,4,5,6,7,8,9],[9,11])])
def write.B10:List Nat:=[0,0,2,6,14,0,0,96,224,510,1023,2047,4095]
theorem write.tab10:rtab .any (opsOf Tryz.f64 10)=write.T10:=by kernel_rfl
theorem write.bits10:waitsOk write.T10.2 write.B10=true:=by kernel_rfl
theorem yields_build59(hgd:oi.guard=none)(e:Int)(f:Fin 32->Int)(x y:Operand)(ho:oi.op=.build 149 #[(0,x),(1,y)])(hx:a.eval x=.int .i64 e)(hy:a.eval y=.agg (pc (mkP f)).toArray): Yields prog ops oi (.agg (enA (e,mkP f))) a:=by
 have hw:Region.wanted oi (yielded ops a.tmps)=true:=by simp[Region.wanted,hgd]
 refine .inl ⟨hw,fun w=>?_⟩;unfold execOp;have hm:(#[(0,x),(1,y)]:Array (Nat×Operand)).map (fun y=>(y.1,a.eval y.2)) = #[(0,.int .i64 e),(1,.agg (pc (mkP f)).toArray)]:=by simp[hx,hy]
 have hr:=run_build59' e f w;rw[<-hm]at hr;simp only[ho,Sem.run_bind,hr,Result.andThen_ok];rfl
theorem step_bs59{K:Act->World->Prop}{Q:Exit->Act->World->Prop}(hgd:oi.guard=none)(e:Int)(f:Fin 32->Int)(x:Operand)(ho:oi.op=.buildSlice 96 1 #[(0,x)])(hx:a.eval x=.agg (enA (e,mkP f)))(h:K (a.put oi.dst (.slice (some ⟨w.heap.size,0,none⟩) 1 1)) (w.alloc (.cells (enA (e,mkP f)) 149))):if Region.wanted oi (yielded ops a.tmps)=true then Oper.wp prog oi a w K Q else E:=by
 have hw:Region.wanted oi (yielded ops a.tmps)=true:=by simp[Region.wanted,hgd]
 rw[if_pos hw];unfold Oper.wp execOp;have hm:(#[(0,x)]:Array (Nat×Operand)).map (fun y=>(y.1,a.eval y.2)) = #[(0,.agg (enA (e,mkP f)))]:=by simp[hx]
 have hr:=run_bs59' e f w;rw[<-hm]at hr;simp only[ho,Sem.run_bind,hr,Result.andThen_ok];exact h
theorem book_set{g:Nat}{x y z:Value}(h:w.heap[g]? = some (.cells #[x,y,z] 98 (0,0))):(w.setCell ⟨g,0,none⟩ v).heap[g]? = some (.cells #[v,y,z] 98 (0,0)):=by
 have hlt:=lt_of_block h;have h':w.heap[g]=.cells #[x,y,z] 98 (0,0):=by simpa[Array.getElem?_eq_getElem hlt] using h
 show(w.heap.modify g _)[g]? = _;rw[Array.getElem?_eq_getElem (by simpa using hlt),Array.getElem_modify_self,h'];rfl
theorem write_end{w3 w4 w5:World}{o:Obj}{g gg cap:Nat}{x:Int×List Int}(hB:BookAt w base g v es st fl)(hb:Bl w w3)(h4:w3.drew.alloc o=w4)(hgr:w4.grownBy w5 v.ownBlock)(hown:w5.ownsRow base 149 33 (.slice (some ⟨gg,0,none⟩) (es.length+1) cap) (es.length+1) (rc es++ec x))(hat:v.ownBlock=some gg\/gg=w4.heap.size)(hx:x.2.length=32)(hl:es.length<100): ∃v',BookAt (w5.setCell ⟨g,0,none⟩ (.slice (some ⟨gg,0,none⟩) (es.length+1) cap)) base g v' (es ++ [x]) st fl/\Chg w (w5.setCell ⟨g,0,none⟩ (.slice (some ⟨gg,0,none⟩) (es.length+1) cap)) g v.ownBlock/\(v'.ownBlock=v.ownBlock\/∃k,v'.ownBlock=some k/\w.heap.size<=k):=by
 have b4:Bl w w4:=by rw[<-h4];exact(Below.drew hb).alloc hb.size _
 have hne:=hB.apart;have hg5:w5.heap[g]? = some (.cells #[v,.int .i64 st,.int .i64 fl] 98 (0,0)):=(hgr.block g (Nat.lt_of_lt_of_le hB.lt b4.size) hne.symm).trans ((b4.block g hB.lt).trans hB.blk);have hgg:gg≠g:=by
  rintro rfl;rcases hat with h|h
  · exact hne h
  have:=Nat.lt_of_lt_of_le hB.lt b4.size;omega
 refine⟨_,⟨hB.lo,book_set hg5,?_,?_,?_⟩,⟨?_,?_,?_,?_,?_⟩,?_⟩
 · unfold Own;(have e1:(es ++ [x]).length=es.length+1:=by simp);(have e2:rc (es ++ [x])=rc es++ec x:=by simp[rc]);rw[e1,e2];exact ownsRow_setCell_other hown (by intro e;exact hgg (by simpa[Value.ownBlock] using e)) _
 · intro y hy;(rcases List.mem_append.1 hy with h|h);(· exact hB.ok y h);rw[List.mem_singleton.1 h];exact hx
 · simp;omega
 · exact hgr.os.trans b4.os
 · exact hgr.tape.trans b4.tape
 · exact hgr.output.trans b4.output
 · exact Nat.le_trans (Nat.le_trans b4.size hgr.size) (by simp[World.setCell])
 · intro k hk h1 h2;rw[Below.heap_setCell _ _ _ _ h1,hgr.block k (Nat.lt_of_lt_of_le hk b4.size) h2,b4.block k hk]
 rcases hat with h|h
 · exact .inl h.symm
 exact .inr ⟨gg,rfl,by rw[h];exact b4.size⟩
theorem keepAlloc{g N:Nat}(h1:w.cell? ⟨g,0,none⟩=some v)(h2:w.frozen? ⟨g,0,none⟩=false)(h3:w.rangeAt N 0 cs)(hg:g<w.heap.size)(hN:N<w.heap.size)(o:Obj): (w.alloc o).cell? ⟨g,0,none⟩=some v/\(w.alloc o).frozen? ⟨g,0,none⟩=false/\(w.alloc o).rangeAt N 0 cs:=
 ⟨by rw[World.cell?_alloc_past _ _ _ hg];exact h1,by rw[World.frozen?_alloc_past _ _ _ hg];exact h2,fun j u hu=>by rw[World.cell?_alloc_past _ _ _ hN];exact h3 j u hu⟩
theorem keepGrown{g N:Nat}(h1:w.cell? ⟨g,0,none⟩=some v)(h2:w.frozen? ⟨g,0,none⟩=false)(h3:w.rangeAt N 0 cs)(hg:g<w.heap.size)(hN:N<w.heap.size)(hgr:w.grownBy w1 r)(r1:r≠some g)(r2:r≠some N): w1.cell? ⟨g,0,none⟩=some v/\w1.frozen? ⟨g,0,none⟩=false/\w1.rangeAt N 0 cs:=
 ⟨by rw[hgr.cell_far _ hg r1.symm];exact h1,by rw[hgr.frozen_far _ hg r1.symm];exact h2,fun j u hu=>by rw[hgr.cell_far _ hN r2.symm];exact h3 j u hu⟩
theorem write_new(base g:Nat)(v:Value)(es:List (Int×List Int))(st fl e:Int)(p:List Int)(w:World)(hp:p.length=32)(hbase:base<=w.heap.size)(hB:BookAt w base g v es st fl)(h1:0<=e)(h2:e<=1099511627776)(hl:(look es e).2=false)(h100:es.length<100): Calls prog 64 #[.pointer (some ⟨g,0,none⟩),.int .i64 e,.agg (papA p)] w fun r w'=>r=.returned (.int .i64 0)/\∃v',BookAt w' base g v' (es ++ [(e,p)]) st fl/\Chg w w' g v.ownBlock/\(v'.ownBlock=v.ownBlock\/∃k,v'.ownBlock=some k/\w.heap.size<=k):=by
 obtain⟨f,rfl⟩:=mkP_of p hp;obtain⟨A,c,rfl,_,hr⟩:=hB.own.reads;have hb1:Bl w (w.alloc (.cells (papA (mkP f)) 43)):=(Below.refl _ _).alloc (Nat.le_refl _) _;have hB1:=hB.below hb1;have hh:=holds_calls A c g es e (w.alloc (.cells (papA (mkP f)) 43)) hB1.lt (by rw[hB1.cell];rfl) hB.len hB.ok (hr.below hb1);rw[hl]at hh;have h32:=look_len hB.ok e;generalize (look es e).1=hs at *;have HH:=hd_ hh;have HL:Hid ((prog.info? 43).map (·.size)=some (papA hs).size):=by show _=_;rw[papA_size h32];exact info27
 have HT:Hid (∀w:World,(w.alloc (.cells (papA zeros) 43)).there w.heap.size 0 (papA hs).size):=fun w=>alloc_there w hs h32;have HBk:=hd_ hB;have HLp:Hid ((prog.info? 43).map (·.size)=some (pc (mkP f)).length):=by show _=_;rw[pc,List.length_map,hp];exact info27
 have HP:=hd_ hp;clear hB hr hB1 hh hl hb1 h32 hp;go_enter func64,ntmps64
 go_wp2_with fail;refine HH.out.mono ?_;clear HH;rintro r w2 ⟨rfl,hb⟩;have HB:Hid (Bl w w2):=((Below.refl _ _).alloc (Nat.le_refl _) _).trans (hb.mono s_);obtain⟨w3,hw3⟩:=ex_ (heldW w2 hs);have HB3:Hid (Bl w w3):=by rw[hw3];exact HB.out.trans ((heldW_below w2 hs).mono HB.out.size)
 have HBk3:=hd_ (HBk.out.below HB3.out);have hcell:w3.cell? ⟨g,0,none⟩=some (.slice A es.length c):=by rw[HBk3.out.cell];rfl
 have hfree:w3.frozen? ⟨g,0,none⟩=false:=HBk3.out.free 0;have hgl:g<w3.heap.size:=HBk3.out.lt;have hres:w2.heap[w.heap.size]? = some (.cells (papA (mkP f)) 43):=(hb.block _ s_).trans (heap_alloc_new _ _);have hlt2:w.heap.size<w2.heap.size:=(Array.getElem?_eq_some_iff.1 hres).1;have hlt:w.heap.size<w3.heap.size:=Nat.lt_of_lt_of_le hlt2 (by rw[hw3];exact(heldW_below w2 hs).size);have hrp:w3.rangeAt w.heap.size 0 (pc (mkP f)):=by rw[hw3];exact range_of_block (((heldW_below w2 hs).block _ hlt2).trans hres)
 have HW:=hd_ hw3;clear hb hw3 hres hlt2;have hu:=underlying43;have HRP:=hd_ hrp;clear hrp;go_wp2_with (first|((refine wpList_store_mid rfl 43 (.tmp 7) (.tmp 23) rr w2.heap.size 0 (papA hs) rr rr (HT.out w2) HL.out (papA_all _) ?_);change wpList _ _ _ _ _ (heldW w2 hs);rw[<-HW.out]));have hrp:=HRP.out;have hi27:=HLp.out;have hl27:(pc (mkP f)).length=32:=by simp[pc,HP.out]
 have h1c:∀v ∈ pc (mkP f),v.oneCell'=true:=papA_one (mkP f);have HOwn:Hid (w3.ownsRow base 149 33 (.slice A es.length c) es.length (rc es)):=HBk3.out.own;have HNg:Hid ((Value.slice A es.length c).ownBlock≠some g):=HBk3.out.apart;have HNn:Hid ((Value.slice A es.length c).ownBlock≠some w.heap.size):=by intro e;obtain⟨q1,q2⟩:=HBk.out.own.lt w.heap.size e;omega
 obtain⟨i0,hi,hz0,hz1,hz2⟩:=info_parts59;have HI0:=hd_ hi;have HZ0:=hd_ hz0;have HZ1:=hd_ hz1;have HZ2:=hd_ hz2;have HM:Hid (es.length<100):=h100;have HBase:Hid (base<=w3.heap.size):=Nat.le_trans hbase HB3.out.size;clear hi hz0 hz1 hz2 h100 hbase HLp HRP HT HL HB h1 h2;refine start_ (n:=13) (S:=fun w'=>w'.cell? ⟨g,0,none⟩=some (.slice A es.length c)/\w'.rangeAt w.heap.size 0 (pc (mkP f))) (ds:=[12]) (bt 13 0) kk rfl rfl ?hS0 (fun hH=>?_);rotate_left;refine with_tabW write.tab10 write.bits10 (fun HT_ HW_=>?_);generalize hw3d:w3.drew=w3d at hH ⊢;have HW3:=hd_ hw3d;have hH0:=hH;clear hw3d;refine pure_ (i:=0) (N:=some 41) (v:=?_) (a':=?_) (bt 13 1) rfl rfl (any_of HT_.out kk) (fun _ _ _ h=>h) (Or.inl ⟨by rfl,?_⟩) ?_ ?_;rotate_left
 · intro w';go_simp;with_reducible rfl
 rotate_left
 · simp only[Act.put,List.setIfInBounds_toArray,List.set_cons_zero,List.set_cons_succ];rfl
 refine pure_ (i:=1) (N:=some 42) (v:=?_) (a':=?_) (bt 13 3) rfl rfl (any_of HT_.out kk) (fun _ _ _ h=>h) (Or.inl ⟨by rfl,?_⟩) ?_ ?_;rotate_left
 · intro w';go_simp;with_reducible rfl
 rotate_left
 · simp only[Act.put,List.setIfInBounds_toArray,List.set_cons_zero,List.set_cons_succ];rfl
 refine pure_ (i:=2) (N:=some 43) (v:=?_) (a':=?_) (bt 13 7) rfl rfl (any_of HT_.out kk) (fun _ _ _ h=>h) (Or.inl ⟨by rfl,?_⟩) ?_ ?_;rotate_left
 · intro w';go_simp;with_reducible rfl
 rotate_left
 · simp only[Act.put,List.setIfInBounds_toArray,List.set_cons_zero,List.set_cons_succ];rfl
 refine pure_ (i:=3) (N:=some 44) (v:=?_) (a':=?_) (bt 13 15) rfl rfl (any_of HT_.out kk) (fun _ _ _ h=>h) (Or.inl ⟨by rfl,?_⟩) ?_ ?_;rotate_left
 · intro w';go_simp;with_reducible rfl
 rotate_left
 · simp only[Act.put,List.setIfInBounds_toArray,List.set_cons_zero,List.set_cons_succ];rfl
 refine take_ (i:=4) (N:=some 45) (v:=?_) (a':=?_) (bt 13 31) rfl rfl (take_ofW HT_.out HW_.out kk) (fun _ _ _ h=>h) (Or.inl ⟨by rfl,?_⟩) hH ?_ ?_;rotate_left
 · rintro w' ⟨s0,s1⟩;go_simp;with_reducible rfl
 rotate_left
 · simp only[Act.put,List.setIfInBounds_toArray,List.set_cons_zero,List.set_cons_succ];rfl
 refine pure_ (i:=5) (N:=some 46) (v:=?_) (a':=?_) (bt 13 63) rfl rfl (any_of HT_.out kk) (fun _ _ _ h=>h) (Or.inl ⟨by rfl,?_⟩) ?_ ?_;rotate_left
 · intro w';go_simp;with_reducible rfl
 rotate_left
 · simp only[Act.put,List.setIfInBounds_toArray,List.set_cons_zero,List.set_cons_succ];rfl
 refine take_ (i:=6) (N:=some 47) (v:=.agg (pc (mkP f)).toArray) (a':=?_) (bt 13 127) rfl rfl (take_ofW HT_.out HW_.out kk) (fun _ _ _ h=>h) (yieldsIf_load_mid rr 43 (.tmp 5) rr w.heap.size 0 rr (pc (mkP f)) _ (fun _ h=>h.2) underlying43 rfl (by rw[hl27];exact info27)) hH ?_ ?_;rotate_left
 · simp only[Act.put,List.setIfInBounds_toArray,List.set_cons_zero,List.set_cons_succ];rfl
 refine pure_ (i:=7) (N:=some 48) (v:=.agg (enA (e,mkP f))) (a':=?_) (bt 13 255) rfl rfl (any_of HT_.out kk) (fun _ _ _ h=>h) (yields_build59 rfl e f (.tmp 46) (.tmp 47) rr rr rr) ?_ ?_;rotate_left
 · simp only[Act.put,List.setIfInBounds_toArray,List.set_cons_zero,List.set_cons_succ];rfl
 refine one_ (i:=8) (N:=some 49) (bt 13 511) rfl rfl (one_of HT_.out kk) dd (fun K hK=>?_);refine step_bs59 rfl e f (.tmp 48) rr rr ?_;obtain⟨c1,c2,c3⟩:=keepAlloc (o:=.cells (enA (e,mkP f)) 149) hH.1 (by rw[<-HW3.out];exact hfree:w3d.frozen? ⟨g,0,none⟩=false) hH.2 (by rw[<-HW3.out];exact hgl) (by rw[<-HW3.out];exact hlt);refine hK.out _ _ ⟨c1,c3⟩ (fun hH=>?_);clear hK K;generalize hw4:w3d.alloc (.cells (enA (e,mkP f)) 149)=w4 at hH c2 ⊢;have HW4:=hd_ hw4;clear hw4 c1 c3;refine norm_ (a':=?_) ?_ ?_;rotate_left
 · show Act.put _ (some 49) _=_;simp only[Act.put,List.setIfInBounds_toArray,List.set_cons_zero,List.set_cons_succ];rfl
 refine one_ (i:=9) (N:=some 50) (bt 13 1023) rfl rfl (one_of HT_.out kk) dd (fun K hK=>?_);have hO4:w4.ownsRow base 149 33 (.slice A es.length c) es.length (rc es):=by rw[<-HW4.out,<- HW3.out];exact(HOwn.out.drew).kept (row:=none) (World.grownBy_alloc _ _ none) (by cases hv:Value.ownBlock (.slice A es.length c)<;>simp)
 have hg4:g<w4.heap.size:=by rw[<-HW4.out,<- HW3.out];exact Nat.lt_of_lt_of_le hgl (by simp[World.alloc])
 have hN4:w.heap.size<w4.heap.size:=by rw[<-HW4.out,<- HW3.out];exact Nat.lt_of_lt_of_le hlt (by simp[World.alloc])
 have hb4:base<=w4.heap.size:=by rw[<-HW4.out,<- HW3.out];exact Nat.le_trans HBase.out (by simp[World.alloc])
 have hnews:∀j u,(ec (e,mkP f))[j]? = some u->w4.cell? ((⟨w3d.heap.size,0,none⟩:Addr).add j)=some u:=by rw[<-HW4.out];exact fun j u h=>World.news_of_block (cs:=enA (e,mkP f)) (heap_alloc_new _ _) j u (by simpa[enA] using h)
 have hlen:(ec (e,mkP f)).length=1*33:=by simp[ec,pc,HP.out]
 have hone:∀u ∈ ec (e,mkP f),u.oneCell'=true:=by intro u hu;rcases List.mem_cons.1 hu with rfl|hu;rfl;exact papA_one _ u hu
 have H100:=HM.out;refine step_append_lies _ rfl _ _ _ rr base 149 i0 _ 33 40 underlying96 HI0.out HZ0.out HZ1.out HZ2.out zero_size dd (.slice A es.length c) es.length (rc es) rr hO4 ⟨w3d.heap.size,0,none⟩ 1 1 (ec (e,mkP f)) rr hlen hnews hone dd (by unfold maxLen;omega) o_ hb4 w4.heap.size rfl ?_;intro gg cap w5 hown1 hgrow hat hlt5;clear hnews hlen hone;obtain⟨c1,c4,c3⟩:=keepGrown hH.1 c2 hH.2 hg4 hN4 hgrow HNg.out HNn.out;have HE:Hid (w5.ownsRow base 149 33 (.slice (some ⟨gg,0,none⟩) (es.length+1) cap) (es.length+1) (rc es++ec (e,mkP f))/\w4.grownBy w5 (Value.slice A es.length c).ownBlock/\((Value.slice A es.length c).ownBlock=some gg\/gg=w4.heap.size)/\g<w4.heap.size/\w.heap.size<w4.heap.size):=⟨hown1,hgrow,hat,hg4,hN4⟩;refine hK.out _ _ ⟨c1,c3⟩ (fun hH=>?_);clear hK K hO4 hb4 hown1 hgrow hat hlt5 c1 c3 hg4 hN4 H100;refine norm_ (a':=?_) ?_ ?_;rotate_left
 · show Act.put _ (some 50) _=_;simp only[Act.put,List.setIfInBounds_toArray,List.set_cons_zero,List.set_cons_succ];rfl
 refine pure_ (i:=10) (N:=some 51) (v:=?_) (a':=?_) (bt 13 2047) rfl rfl (any_of HT_.out kk) (fun _ _ _ h=>h) (Or.inl ⟨by rfl,?_⟩) ?_ ?_;rotate_left
 · intro w';go_simp;with_reducible rfl
 rotate_left
 · simp only[Act.put,List.setIfInBounds_toArray,List.set_cons_zero,List.set_cons_succ];rfl
 refine pure_ (i:=11) (N:=some 52) (v:=?_) (a':=?_) (bt 13 4095) rfl rfl (any_of HT_.out kk) (fun _ _ _ h=>h) (Or.inl ⟨by rfl,?_⟩) ?_ ?_;rotate_left
 · intro w';go_simp;with_reducible rfl
 rotate_left
 · simp only[Act.put,List.setIfInBounds_toArray,List.set_cons_zero,List.set_cons_succ];rfl
 refine last_ (i:=12) (N:=none) (bt 13 8191) rfl rfl (one_of HT_.out kk) dd (fun K hK=>?_);have c1:=hH.1;refine skip_ (w1:=w5.setCell ⟨g,0,none⟩ (.slice (some ⟨gg,0,none⟩) (es.length+1) cap)) rr rfl ?_ ?_
 · go_simp
 refine hK.out _ _ ?_;refine done_ (done_of HT_.out kk) ?_;generalize hw6:w5.setCell ⟨g,0,none⟩ (.slice (some ⟨gg,0,none⟩) (es.length+1) cap)=w6;have HW6:=hd_ hw6;clear hw6 c1 hK K;try go_wp2
 go_ret;refine⟨rfl,?_⟩;rw[<-HW6.out];obtain⟨q1,q2,q3,q4,q5⟩:=HE.out;exact write_end HBk.out HB3.out (by rw[HW3.out];exact HW4.out) q2 q1 q3 HP.out HM.out;case hS0=>exact⟨hcell,hrp⟩
end Go.Proofs.YtppjnahcnofokaaGreat.B
namespace Go.Proofs.YtppjnahcnofokaaGreat.B
open Go.RowKit
open Go.Proofs.Tryz
variable{k:IntKind}{a:Act}{b i n B base m fuel D B':Nat}{l ch t0:List Int}{w w' w1 w2:World}{t:TypeId}{P:Program}{cs xs vs l3:List Value}{A A':Option Addr}{o oi:Oper}{e s f st fl:Int}{ops:Array Oper}{rest l0:List Oper}{v:Value}{r:Option Nat}{rs rs2:List (Option Addr×Nat×Nat×List Int)}{E:Prop}{ad ai go:List Bool}{N:Act->Prop}{place:Nat->Option (Nat×Nat)}{bad:Bool}{es es':List (Int×List Int)}{T:List TypeId}
theorem write_calls(base g:Nat)(v:Value)(es:List (Int×List Int))(st fl e:Int)(p:List Int)(w:World)(hp:p.length=32)(hbase:base<=w.heap.size)(hB:BookAt w base g v es st fl)(code:Int)(es':List (Int×List Int))(hw:writeOf es e p=(code,es')): Calls prog 64 #[.pointer (some ⟨g,0,none⟩),.int .i64 e,.agg (papA p)] w fun r w'=>r=.returned (.int .i64 code)/\∃v',BookAt w' base g v' es' st fl/\Chg w w' g v.ownBlock/\(v'.ownBlock=v.ownBlock\/∃k,v'.ownBlock=some k/\w.heap.size<=k):=by
 unfold writeOf at hw;by_cases h1:e<0\/1099511627776<e
 · rw[if_pos h1]at hw;obtain⟨rfl,rfl⟩:=Prod.mk.inj hw;refine(write_out g e p w h1).mono ?_;rintro r w' ⟨rfl,hb⟩;exact⟨rfl,v,hB.below hb,Chg.of_below hb _ _,.inl rfl⟩
 rw[if_neg h1]at hw;have h2:0<=e:=by omega
 have h3:e<=1099511627776:=by omega
 by_cases hl:(look es e).2=true
 · rw[if_pos hl]at hw;refine(write_found base g v es st fl e p w hp hB h2 h3 hl _ rfl).mono ?_;rintro r w' ⟨rfl,hb⟩;by_cases hq:(look es e).1=p;(· rw[if_pos hq]at hw;obtain⟨rfl,rfl⟩:=Prod.mk.inj hw;exact⟨by rw[beq_iff_eq.2 hq];rfl,v,hB.below hb,Chg.of_below hb _ _,.inl rfl⟩);rw[if_neg hq]at hw;obtain⟨rfl,rfl⟩:=Prod.mk.inj hw;exact⟨by rw[beq_eq_false_iff_ne.2 hq];rfl,v,hB.below hb,Chg.of_below hb _ _,.inl rfl⟩
 rw[if_neg hl]at hw;have hl':(look es e).2=false:=by simpa using hl
 by_cases h100:100<=es.length
 · rw[if_pos h100]at hw;obtain⟨rfl,rfl⟩:=Prod.mk.inj hw;refine(write_full base g v es st fl e p w hB h2 h3 hl' h100).mono ?_;rintro r w' ⟨rfl,hb⟩;exact⟨rfl,v,hB.below hb,Chg.of_below hb _ _,.inl rfl⟩
 rw[if_neg h100]at hw;obtain⟨rfl,rfl⟩:=Prod.mk.inj hw;exact write_new base g v es st fl e p w hp hbase hB h2 h3 hl' o_
theorem new_book(w:World):BookAt (w.alloc (.cells #[.slice none 0 0,.int .i64 0,.int .i64 0] 98)) w.heap.size w.heap.size (.slice none 0 0) [] 0 0:=
 ⟨Nat.le_refl _,heap_alloc_new _ _,World.ownsRow_nil _ _ _ _,(fun _ h=>by cases h),by simp⟩
end Go.Proofs.YtppjnahcnofokaaGreat.B
namespace Go.Proofs.YtppjnahcnofokaaGreat.B
open Go.RowKit Go.Proofs.YtppjnahcnofokaaGreatW.PrintWords Go.Proofs.YtppjnahcnofokaaGreatW.PrintLast
open Go.Proofs.Tryz
variable{k:IntKind}{a:Act}{b i n B base m fuel D B':Nat}{l ch t0:List Int}{w w' w1 w2:World}{t:TypeId}{P:Program}{cs xs vs l3:List Value}{A A':Option Addr}{o oi:Oper}{e s f st fl:Int}{ops:Array Oper}{rest l0:List Oper}{v:Value}{r:Option Nat}{rs rs2:List (Option Addr×Nat×Nat×List Int)}{E:Prop}{ad ai go:List Bool}{N:Act->Prop}{place:Nat->Option (Nat×Nat)}{bad:Bool}{es es':List (Int×List Int)}{T:List TypeId}
def flush.T1:Bool×List (List Nat×List Nat):=(true,[([],[]),([0],[0]),([1],[1]),([],[]),([3],[3]),([4],[4]),([5],[5]),([6],[6]),([2,7],[2,7])])
def flush.B1:List Nat:=[0,1,3,0,8,24,56,120,255]
theorem flush.tab1:rtab .any (opsOf Tryz.f65 1)=flush.T1:=by kernel_rfl
theorem flush.bits1:waitsOk flush.T1.2 flush.B1=true:=by kernel_rfl
theorem book_set1{g:Nat}{x y z:Value}(h:w.heap[g]? = some (.cells #[x,y,z] 98 (0,0))):(w.setCell ⟨g,1,none⟩ v).heap[g]? = some (.cells #[x,v,z] 98 (0,0)):=by
 have hlt:=lt_of_block h;have h':w.heap[g]=.cells #[x,y,z] 98 (0,0):=by simpa[Array.getElem?_eq_getElem hlt] using h
 show(w.heap.modify g _)[g]? = _;rw[Array.getElem?_eq_getElem (by simpa using hlt),Array.getElem_modify_self,h'];rfl
theorem book_set2{g:Nat}{x y z:Value}(h:w.heap[g]? = some (.cells #[x,y,z] 98 (0,0))):(w.setCell ⟨g,2,none⟩ v).heap[g]? = some (.cells #[x,y,v] 98 (0,0)):=by
 have hlt:=lt_of_block h;have h':w.heap[g]=.cells #[x,y,z] 98 (0,0):=by simpa[Array.getElem?_eq_getElem hlt] using h
 show(w.heap.modify g _)[g]? = _;rw[Array.getElem?_eq_getElem (by simpa using hlt),Array.getElem_modify_self,h'];rfl
theorem BookAt.setStays{g:Nat}(h:BookAt w base g v es st fl)(x:Int):BookAt (w.setCell ⟨g,1,none⟩ (.int .i64 x)) base g v es x fl:=
 ⟨h.lo,book_set1 h.blk,ownsRow_setCell_other h.own h.apart _,h.ok,h.len⟩
theorem BookAt.setFlushes{g:Nat}(h:BookAt w base g v es st fl)(x:Int):BookAt (w.setCell ⟨g,2,none⟩ (.int .i64 x)) base g v es st x:=
 ⟨h.lo,book_set2 h.blk,ownsRow_setCell_other h.own h.apart _,h.ok,h.len⟩
theorem Chg.set{g:Nat}(h:Chg w w' g r)(o:Nat)(x:Value):Chg w (w'.setCell ⟨g,o,none⟩ x) g r:=
 ⟨h.os,h.tape,h.output,Nat.le_trans h.size (by simp[World.setCell]),fun k hk h1 h2=>(Below.heap_setCell _ _ _ _ h1).trans (h.block k hk h1 h2)⟩
theorem flush_calls(base g:Nat)(v:Value)(es:List (Int×List Int))(st fl:Int)(w:World)(hB:BookAt w base g v es st fl): Calls prog 65 #[.pointer (some ⟨g,0,none⟩)] w fun r w'=>r=.returned (.tuple #[])/\BookAt w' base g v es es.length (wrap64 (fl+1))/\Chg w w' g none:=by
 obtain⟨A,c,rfl,_,hr⟩:=hB.own.reads;have hcell:w.cell? ⟨g,0,none⟩=some (.slice A es.length c):=by rw[hB.cell];rfl
 have HB:=hd_ hB;clear hB hr;go_enter func65,ntmps65
 go_wp2_with fail;refine start_ (n:=9) (S:=fun w'=>w'.cell? ⟨g,0,none⟩=some (.slice A es.length c)) (ds:=[8]) (bt 9 0) kk rfl rfl ?hS0 (fun hH=>?_);rotate_left;refine with_tabW flush.tab1 flush.bits1 (fun HT_ HW_=>?_);generalize hw3d:w.drew=w3d at hH ⊢;have HW3:=hd_ hw3d;clear hw3d;refine pure_ (i:=0) (N:=some 4) (v:=?_) (a':=?_) (bt 9 1) rfl rfl (any_of HT_.out kk) (fun _ _ _ h=>h) (Or.inl ⟨by rfl,?_⟩) ?_ ?_;rotate_left
 · intro w';go_simp;with_reducible rfl
 rotate_left
 · simp only[Act.put,List.setIfInBounds_toArray,List.set_cons_zero,List.set_cons_succ];rfl
 refine pure_ (i:=1) (N:=some 5) (v:=?_) (a':=?_) (bt 9 3) rfl rfl (any_of HT_.out kk) (fun _ _ _ h=>h) (Or.inl ⟨by rfl,?_⟩) ?_ ?_;rotate_left
 · intro w';go_simp;with_reducible rfl
 rotate_left
 · simp only[Act.put,List.setIfInBounds_toArray,List.set_cons_zero,List.set_cons_succ];rfl
 refine pure_ (i:=2) (N:=some 6) (v:=?_) (a':=?_) (bt 9 7) rfl rfl (any_of HT_.out kk) (fun _ _ _ h=>h) (Or.inl ⟨by rfl,?_⟩) ?_ ?_;rotate_left
 · intro w';go_simp;with_reducible rfl
 rotate_left
 · simp only[Act.put,List.setIfInBounds_toArray,List.set_cons_zero,List.set_cons_succ];rfl
 refine pure_ (i:=3) (N:=some 7) (v:=?_) (a':=?_) (bt 9 15) rfl rfl (any_of HT_.out kk) (fun _ _ _ h=>h) (Or.inl ⟨by rfl,?_⟩) ?_ ?_;rotate_left
 · intro w';go_simp;with_reducible rfl
 rotate_left
 · simp only[Act.put,List.setIfInBounds_toArray,List.set_cons_zero,List.set_cons_succ];rfl
 refine pure_ (i:=4) (N:=some 8) (v:=?_) (a':=?_) (bt 9 31) rfl rfl (any_of HT_.out kk) (fun _ _ _ h=>h) (Or.inl ⟨by rfl,?_⟩) ?_ ?_;rotate_left
 · intro w';go_simp;with_reducible rfl
 rotate_left
 · simp only[Act.put,List.setIfInBounds_toArray,List.set_cons_zero,List.set_cons_succ];rfl
 refine pure_ (i:=5) (N:=some 9) (v:=?_) (a':=?_) (bt 9 63) rfl rfl (any_of HT_.out kk) (fun _ _ _ h=>h) (Or.inl ⟨by rfl,?_⟩) ?_ ?_;rotate_left
 · intro w';go_simp;with_reducible rfl
 rotate_left
 · simp only[Act.put,List.setIfInBounds_toArray,List.set_cons_zero,List.set_cons_succ];rfl
 refine take_ (i:=6) (N:=some 10) (v:=?_) (a':=?_) (bt 9 127) rfl rfl (take_ofW HT_.out HW_.out kk) (fun _ _ _ h=>h) (Or.inl ⟨by rfl,?_⟩) hH ?_ ?_;rotate_left
 · intro w' s0;go_simp;with_reducible rfl
 rotate_left
 · simp only[Act.put,List.setIfInBounds_toArray,List.set_cons_zero,List.set_cons_succ];rfl
 refine pure_ (i:=7) (N:=some 11) (v:=?_) (a':=?_) (bt 9 255) rfl rfl (any_of HT_.out kk) (fun _ _ _ h=>h) (Or.inl ⟨by rfl,?_⟩) ?_ ?_;rotate_left
 · intro w';go_simp;with_reducible rfl
 rotate_left
 · simp only[Act.put,List.setIfInBounds_toArray,List.set_cons_zero,List.set_cons_succ];rfl
 refine last_ (i:=8) (N:=some 12) (bt 9 511) rfl rfl (one_of HT_.out kk) dd (fun K hK=>?_);have HB3:Hid (BookAt w3d base g (.slice A es.length c) es st fl):=by rw[<-HW3.out];exact HB.out.below (Below.refl _ _).drew
 refine goes_ func76 kk rfl #[.pointer (some ⟨g,1,none⟩),.int .i64 es.length] rr rfl rfl mL ?_;refine(store_calls g 1 es.length (.int .i64 st) w3d (by rw[HB3.out.cell];rfl) (HB3.out.free 1)).mono ?_;rintro r w4 ⟨rfl,hw4⟩;refine⟨_,rfl,?_⟩;refine hK.out _ _ ?_;clear hK K;refine mN ?_;refine done_ (done_of HT_.out kk) ?_;have HB4:Hid (BookAt w4 base g (.slice A es.length c) es es.length fl):=by rw[<-hw4];exact HB3.out.setStays _
 have HC4:Hid (Chg w w4 g none):=by rw[<-hw4,<- HW3.out];exact(Chg.of_below (Below.refl _ _).drew _ _).set _ _
 clear hw4;have hc4:w4.cell? ⟨g,2,none⟩=some (.int .i64 fl):=by rw[HB4.out.cell];rfl
 go_wp2_with (go_at_call 21;refine(add_calls g 2 fl 1 w4 hc4 (HB4.out.free 2)).mono ?_;rintro r w5 ⟨rfl,hw5⟩);go_end0;refine⟨rfl,?_,?_⟩
 · rw[<-hw5];exact HB4.out.setFlushes _
 · rw[<-hw5];exact HC4.out.set _ _
 case hS0=>exact hcell
end Go.Proofs.YtppjnahcnofokaaGreat.B
namespace Go.Proofs.YtppjnahcnofokaaGreat.B
open Go.RowKit
open Go.Proofs.Tryz
variable{k:IntKind}{a:Act}{b i n B base m fuel D B':Nat}{l ch t0:List Int}{w w' w1 w2:World}{t:TypeId}{P:Program}{cs xs vs l3:List Value}{A A':Option Addr}{o oi:Oper}{e s f st fl:Int}{ops:Array Oper}{rest l0:List Oper}{v:Value}{r:Option Nat}{rs rs2:List (Option Addr×Nat×Nat×List Int)}{E:Prop}{ad ai go:List Bool}{N:Act->Prop}{place:Nat->Option (Nat×Nat)}{bad:Bool}{es es':List (Int×List Int)}{T:List TypeId}
theorem Reads.take(h:Reads w A es)(hk:Ok32 es)(n:Nat):Reads w A (es.take n):=fun hp=>by
 obtain⟨b,o,e,h1,h2⟩:=h (by rw[List.length_take]at hp;omega)
 refine⟨b,o,e,h1,fun j v hv=>h2 j v ?_⟩
 rw[rc_take n hk]at hv
 rw[List.getElem?_take]at hv
 split at hv
 · exact hv
 · cases hv
theorem Ok32.take(h:Ok32 es)(n:Nat):Ok32 (es.take n):=fun x hx=>h x (List.mem_of_mem_take hx)
theorem own_slice(h:Own w base v es)(hn:es.length=n):∃A c,v=.slice A n c:=by
 obtain⟨A,c,h1,_⟩:=h.reads;exact⟨A,c,by rw[h1,hn]⟩
theorem clone_at{c:Nat}{R:Ending->World->Prop}(h:m=n)(H:Calls prog 75 #[.slice A n c] w R):Calls prog 75 #[.slice A m c] w R:=h ▸ H
theorem store_at{x:Int}{p:Value}{R:Ending->World->Prop}(h:x=n)(H:Calls prog 76 #[p,.int .i64 n] w R):Calls prog 76 #[p,.int .i64 x] w R:=h ▸ H
theorem crash_book(ho:Own w2 w.heap.size v (es.take n))(hb:Bl w w2)(hk:Ok32 es)(hl:es.length<=100): BookAt (w2.alloc (.cells #[v,.int .i64 0,.int .i64 0] 98)) w.heap.size w2.heap.size v (es.take n) 0 0:=
 ⟨hb.size,heap_alloc_new _ _,World.ownsRow.kept (row:=none) ho (World.grownBy_alloc _ _ none) (by cases hv:v.ownBlock<;>simp),hk.take n,by rw[List.length_take];omega⟩
theorem crash_calls(base g:Nat)(v:Value)(es:List (Int×List Int))(s:Nat)(fl keep:Int)(w:World)(hB:BookAt w base g v es s fl)(hs:s<=es.length)(n:Nat)(hn:(n:Int)=s+min (max keep 0) (es.length-s)): Calls prog 45 #[.pointer (some ⟨g,0,none⟩),.int .i64 keep] w fun r w'=>∃g' v',r=.returned (.pointer (some ⟨g',0,none⟩))/\BookAt w' w.heap.size g' v' (es.take n) n 0/\Bl w w':=by
 obtain⟨A,c,rfl,hlc,hr⟩:=hB.own.reads;have hcell:w.cell? ⟨g,0,none⟩=some (.slice A es.length c):=by rw[hB.cell];rfl
 have hst:w.cell? ⟨g,1,none⟩=some (.int .i64 s):=by rw[hB.cell];rfl
 have hle:n<=es.length:=by omega
 have h100:=hB.len;have hcl:=clone_calls A n c (es.take n) w (by rw[List.length_take];omega) o_ (hB.ok.take n) (hr.take hB.ok n);have HCL:=hd_ hcl;have HB:=hd_ hB;clear hB hr hcl;have Hn:=hd_ hn;clear hn;go_enter func45,ntmps45
 go_wp2_with (first
  | (go_at_call 74;refine(load_calls g 1 _ _ hst).mono ?_;rintro r w2 ⟨rfl,rfl⟩)
  | (go_at_call 75;refine clone_at (n:=n) (by have:=Hn.out;omega) (HCL.out.mono ?_);rintro r w2 ⟨v2,rfl,hown,hb2⟩;obtain⟨A2,c2,rfl⟩:=own_slice hown (n:=n) (by rw[List.length_take];omega);have HO:=hd_ hown;have Hb2:=hd_ hb2;clear hown hb2)
  | (go_at_call 76;refine store_at (n:=n) (by have:=Hn.out;omega) ((store_calls _ 1 n (.int .i64 0) _ (by rw[(crash_book HO.out Hb2.out HB.out.ok HB.out.len).cell];rfl) ((crash_book HO.out Hb2.out HB.out.ok HB.out.len).free 1)).mono ?_);rintro r w3 ⟨rfl,hw3⟩))
 all_goals
  go_ret
  refine⟨w2.heap.size,rfl,⟨.slice A2 n c2,?_⟩,?_⟩
  · rw[<-hw3];exact(crash_book HO.out Hb2.out HB.out.ok HB.out.len).setStays _
  · rw[<-hw3];exact(Hb2.out.alloc Hb2.out.size _).setCell Hb2.out.size _
end Go.Proofs.YtppjnahcnofokaaGreat.B
