import Derived.Test.YtppjnahcnofokaaGreatK0
import Derived.Test.YtppjnahcnofokaaGreatK1
import Derived.Test.YtppjnahcnofokaaGreatK2
import Derived.Test.YtppjnahcnofokaaGreatK3
import Derived.Test.YtppjnahcnofokaaGreatK4
import Derived.Test.YtppjnahcnofokaaGreatK5
import Derived.Test.YtppjnahcnofokaaGreatK6
set_option maxRecDepth 100000
set_option maxHeartbeats 32000000
set_option linter.unusedSimpArgs false
set_option linter.unusedVariables false
set_option linter.unnecessarySimpa false
namespace Go.Proofs.YtppjnahcnofokaaGreat.T
open Go.RowKit Go.Proofs.YtppjnahcnofokaaGreatW.PrintLast
open Go.Proofs.Tryz
variable{k:IntKind}{a:Act}{b i n B base m fuel D B':Nat}{l ch p t0 q:List Int}{w w' w1 w2:World}{t:TypeId}{P:Int->Int->Prop}{cs:Array Value}{A A':Option Addr}{o oi:Oper}{e s f st fl:Int}{xs:List (List Int×Int×Int×Int)}{ops:Array Oper}{rest l0:List Oper}{v:Value}{r:Option Nat}{rs rs2:List (Option Addr×Nat×Nat×List Int)}{E:Prop}{vs l3:List Value}{ad ai go:List Bool}{N:Act->Prop}{place:Nat->Option (Nat×Nat)}{bad:Bool}{es es':List (Int×List Int)}{T:List TypeId}{ps:List (List Int)}
theorem OpsR.at5{c:Nat}(h:OpsR w A n c l)(i:Nat)(hi:i<n):∃b o x0 x1 x2 x3 x4,A=some ⟨b,o,none⟩/\b<w.heap.size/\w.cell? ⟨b,o+i*5,none⟩=some (.int .i64 x0)/\w.cell? ⟨b,o+i*5+1,none⟩=some (.int .i64 x1)/\w.cell? ⟨b,o+i*5+2,none⟩=some (.int .i64 x2)/\w.cell? ⟨b,o+i*5+3,none⟩=some (.int .i64 x3)/\w.cell? ⟨b,o+i*5+4,none⟩=some (.int .i64 x4)/\∀j,j<5->[x0,x1,x2,x3,x4][j]? = l[i*5+j]?:=by
 have hcap:=h.cap;have hlen:=h.len;rw[ints_len]at hlen;obtain⟨b,o,e,hlt,hr⟩:=h.at_ o_;have hc:∀j,j<5->∃x,l[i*5+j]? = some x/\w.cell? ⟨b,o+(i*5+j),none⟩=some (.int .i64 x):=fun j hj=>
  ⟨_,List.getElem?_eq_getElem o_,hr (i*5+j) _ (ints_get (List.getElem?_eq_getElem o_))⟩
 obtain⟨x0,g0,h0⟩:=hc 0 o_;obtain⟨x1,g1,h1⟩:=hc 1 o_;obtain⟨x2,g2,h2⟩:=hc 2 o_;obtain⟨x3,g3,h3⟩:=hc 3 o_;obtain⟨x4,g4,h4⟩:=hc 4 o_;refine⟨b,o,x0,x1,x2,x3,x4,e,hlt,h0,h1,h2,h3,h4,fun j hj=>?_⟩
 match j,hj with
 | 0,_=>exact g0.symm
 | 1,_=>exact g1.symm
 | 2,_=>exact g2.symm
 | 3,_=>exact g3.symm
 | 4,_=>exact g4.symm
def OwnT(w:World)(n:Nat)(l:List Int)(r:Ending)(w':World):Prop:=∃A c,r=.returned (.slice A n c)/\OwnL w' w.heap.size (.slice A n c) l
theorem OwnL.far{c:Nat}(h:OwnL w base (.slice A m c) l):∀g,w.heap.size<=g->(Value.slice A m c).ownBlock≠some g:=fun g hg e=>by
 have:=(World.ownsRow.lt h _ e).2
 omega
theorem vOps_f(A:Option Addr)(n c:Nat)(l:List Int)(w:World)(hr:OpsR w A n c l)(hn:n<=1000):Calls prog 98 #[.slice A n c] w fun r w'=>OwnT w (n*40) (nums l) r w'/\Bl w w':=by
 have HR:=hd_ hr;clear hr;go_enter func98,ntmps98
 go_wp2_with fail;go_loopw [3,10] (fun vx v wr=>∃(i m:Nat) (A3:Option Addr) (c3:Nat),v=.int .i64 i/\vx=.slice A3 m c3/\i<=n/\m=i*40/\Hid (OwnL wr w.heap.size (.slice A3 m c3) (nums (l.take (i*5))))/\Hid (Bl w wr)) (fun _ v _=>n-(intOf v).toNat)
 case atStart=>exact⟨0,0,none,0,rfl,rfl,Nat.zero_le _,rfl,OwnL.nil _ _,Below.refl _ _⟩
 case round=>
  obtain⟨wa,rfl⟩:=ex_ (wr);obtain⟨i,m,A3,c3,rfl,rfl,hi,hm,hO,hb⟩:=hrel;have HM:=hd_ hm;clear hm;by_cases hlt:i<n
  · obtain⟨b,o,x0,x1,x2,x3,x4,rfl,_,k0,k1,k2,k3,k4,hx5⟩:=(HR.out.below hb.out).at5 i hlt;have HX5:=hd_ hx5;clear hx5;have hcap:=HR.out.cap;go_wp2_with fail;obtain⟨w1,hW⟩:=ex_ ((wa.alloc (.cells #[.int .i64 x0,.int .i64 x1,.int .i64 x2,.int .i64 x3,.int .i64 x4] 55)).alloc (.cells #[.int .i64 x0,.int .i64 x1,.int .i64 x2,.int .i64 x3,.int .i64 x4] 3));(have HB:Hid (Blk w1 (wa.heap.size+1) .i64 3 [x0,x1,x2,x3,x4]):=by rw[hW];exact blk_new _ .i64 3 [x0,x1,x2,x3,x4] _ s_);(have hb1:Bl wa w1:=by rw[hW];exact bal b0_);have HO1:Hid (OwnL w1 w.heap.size (.slice A3 m c3) (nums (l.take (i*5)))):=hO.out.below hb1;have HN:Hid ((Value.slice A3 m c3).ownBlock≠some (wa.heap.size+1)):=hO.out.far _ (Nat.le_succ _);have Hb1:=tb_ hb hb1;have HW:=hd_ hW;clear hW hb1 k0 k1 k2 k3 k4;(go_loopw [3,28] (fun vx v wr2=>∃(j m2:Nat) (A3:Option Addr) (c3:Nat),v=.int .i64 j/\vx=.slice A3 m2 c3/\j<=5/\m2=i*40+j*8/\Hid (OwnL wr2 w.heap.size (.slice A3 m2 c3) (nums (l.take (i*5+j))))/\Hid (Bl w wr2)/\Hid (Blk wr2 (wa.heap.size+1) .i64 3 [x0,x1,x2,x3,x4])/\Hid ((Value.slice A3 m2 c3).ownBlock≠some (wa.heap.size+1))) (fun _ v _=>5-(intOf v).toNat));(case atStart=>rw[<-HW.out];exact⟨0,m,A3,c3,rfl,rfl,Nat.zero_le _,HM.out,HO1,Hb1,HB,HN⟩);case round=>
     clear HM HB HO1 HN Hb1 HW hO hb;obtain⟨j,m2,A3,c3,rfl,rfl,hj,hm2,hO,hb,HB,HN⟩:=hrel;have HM2:=hd_ hm2;(have hm2b:m2<=40040:=by omega);clear hm2;by_cases hlj:j<5;(· obtain⟨y,hgy,hy⟩:∃y,l[i*5+j]? = some y/\wr.cell? ⟨wa.heap.size+1,j,none⟩=some (.int .i64 y):=⟨_,(HX5.out j hlj).symm.trans (List.getElem?_eq_getElem (by show j<5;omega)),HB.out.cell (List.getElem?_eq_getElem (by show j<5;omega))⟩;have HGY:=hd_ hgy;clear hgy;have HN0:=HN;go_wp2_with fail;refine(num_f y wr).mono ?_;rintro _ w4 ⟨⟨A4,c4,rfl,ho4⟩,hb4⟩;have hl4:=numF_len y;obtain⟨l4,hle4⟩:∃l,l=numF y:=⟨_,rfl⟩;rw[<-hle4]at ho4 hl4;have HLE4:=hd_ hle4;clear hle4;have HR4:Hid (Rd w4 .u8 A4 8 c4 l4):=rd_own ho4 hl4;have ho3:=hO.out.below hb4;have hrl:=ho3.rd.1;(have HO3:Hid (w4.ownsRow w.heap.size 5 1 (.slice A3 m2 c3) m2 (ints .u8 (nums (l.take (i*5+j))))):=by have h:=ho3;unfold OwnL at h;rw[<-hrl]at h;exact h);have HL3:=hd_ hrl;have HB4:=hd_ (HB.out.below hb4 HB.out.lt);have Hb4:=tb_ hb hb4;clear hb4 ho4 hl4 ho3 hrl hy;go_wp2_with (at_builtin;refine append_rg rfl (.tmp 32) (.tmp 34) 31 rfl w.heap.size 5 1 1 et31 (.slice A3 m2 c3) m2 (ints .u8 (nums (l.take (i*5+j)))) rfl HO3.out A4 8 c4 (ints .u8 l4) rfl HR4.out.rg ints_one o_ (by unfold maxLen;omega) Hb4.out.size ?_;intro A7 c7 w7 hown7 hgrow hb7 hat);(have HO7:Hid (OwnL w7 w.heap.size (.slice A7 (m2+8) c7) (nums (l.take (i*5+(j+1))))):=by rw[show i*5+(j+1)=i*5+j+1 by omega,nums_snoc HGY.out,<- HLE4.out];exact OwnL.app HR4.out.len (by rw[<-HL3.out];exact hown7));have HB7:Hid (Blk w7 (wa.heap.size+1) .i64 3 [x0,x1,x2,x3,x4]):=Cel.blk (HB4.out.cel.grown hgrow (fun e=>HN.out e.symm));(have HN7:Hid ((Value.slice A7 (m2+8) c7).ownBlock≠some (wa.heap.size+1)):=by have hlt:=HB4.out.lt;(rcases hat with e|e);(· show _≠_;rw[e];exact HN.out);show _≠_;rw[e];intro e';injection e' with e';omega);have Hb7:=hd_ (Hb4.out.trans hb7);clear hown7 hgrow hb7 hat;go_wp2_with fail;go_roundw;(case rel=>exact⟨j+1,m2+8,A7,c7,by go_num,rfl,by omega,by have:=HM2.out;omega,HO7,Hb7,HB7,HN7⟩);case measure=>simp[intOf];omega);(obtain rfl:j=5:=by omega);(have hm:m2=(i+1)*40:=by have:=HM2.out;omega);have HMi:=hd_ hm;clear hm;go_wp2_with fail;exact⟨⟨i+1,m2,A3,c3,by go_num,rfl,by omega,HMi.out,by rw[show(i+1)*5=i*5+5 by omega];exact hO,hb⟩,by simp[intOf];omega⟩
  go_wp2_with fail;go_ret;have e:n*40=m:=by have:=HM.out;omega
  have ei:l.take (i*5)=l:=List.take_of_length_le (by have:=HR.out.len;rw[ints_len]at this;omega);rw[e];exact⟨⟨_,_,rfl,by have h:=hO.out;rw[ei]at h;exact h⟩,hb.out⟩
def lView:ByteArray:=⟨#[118,105,101,119]⟩
def lVote:ByteArray:=⟨#[118,111,116,101]⟩
def admB(ad:List Bool):List Int:=ad.map fun q=>if q=true then 1 else 0
def vhF(e k:Int)(t ch:List Int)(ad:List Bool):List Int:=derF ch lView (numF e++(numF k++(admB ad++thF t)))
def papF(e k f:Int)(t ch:List Int)(ad:List Bool)(l:List Int):List Int:=derF (vhF e k t ch ad) lVote (numF f++nums l)
theorem vhF_len(e k:Int)(t ch:List Int)(ad:List Bool):(vhF e k t ch ad).length=32:=derF_len _ _ _
theorem papF_len(e k f:Int)(t ch:List Int)(ad:List Bool)(l:List Int):(papF e k f t ch ad l).length=32:=derF_len _ _ _
theorem admB_snoc(h:i<ad.length):admB (ad.take (i+1))=admB (ad.take i) ++ [if ad.getD i false=true then 1 else 0]:=by
 have e:ad.take (i+1)=ad.take i ++ [ad.getD i false]:=by rw[List.take_add_one,List.getD_eq_getElem?_getD,List.getElem?_eq_getElem h];rfl
 rw[e];simp[admB]
theorem vHash_f(e k:Int)(t ch:List Int)(ad:List Bool)(w:World)(h:VwOk t ad ch):Calls prog 97 #[.agg (vw e t ad k ch).toArray] w fun r w'=>r=.returned (.agg (ints .u8 (vhF e k t ch ad)).toArray)/\Bl w w':=by
 obtain⟨w1,hW⟩:=ex_ ((w.alloc (.cells (vw e t ad k ch).toArray 45)).alloc (.cells (ints .u8 zl).toArray 43));have HC:Hid (Cel w1 w.heap.size 45 (vw e t ad k ch)):=by rw[hW];exact(Cel.new _ rfl rfl).alloc _
 have HZ:Hid (Row w1 (w.heap.size+1) .u8 43 32):=by rw[hW];exact Row.new zl _ rfl s_
 have Hb:Hid (Bl w w1):=by rw[hW];exact bal b0_
 have HV:=hd_ h;have HW:=hd_ hW;have HR:Hid (w1.rangeAt w.heap.size 32 (bools ad)):=by
  have:=Cel.range (l1:=.int .i64 e :: ints .i64 t) (l2:=bools ad) (l3:=[.int .i64 k]++ints .u8 ch) (by simpa[vw] using HC.out);have e:(Value.int IntKind.i64 e :: ints .i64 t).length=32:=by simp[ints_len,h.tree]
  rw[e]at this;exact this
 have HI:Hid ((prog.info? 41).map (·.size)=some (bools ad).length):=by show _=_;rw[bools_len,h.admins];exact info41
 have HIc:=hi43 h.chain;clear hW h;go_enter func97,ntmps97
 go_wp2_with ((change wpList _ _ _ _ _ ((w.alloc (.cells (vw e t ad k ch).toArray 45)).alloc (.cells (ints .u8 zl).toArray 43)));rw[<-HW.out];refine wpList_load_mid rfl 41 (.tmp 8) rr w.heap.size 32 rr (bools ad) _ HR.out underlying41 rfl HI.out ?_);go_loopw [3,10] (fun vx v wr=>∃(i m:Nat) (A3:Option Addr) (c3:Nat),v=.int .i64 i/\vx=.slice A3 m c3/\i<=8/\m=i/\Hid (OwnL wr w1.heap.size (.slice A3 m c3) (admB (ad.take i)))/\Hid (Bl w1 wr)) (fun _ v _=>8-(intOf v).toNat)
 case atStart=>exact⟨0,0,none,0,rfl,rfl,Nat.zero_le _,rfl,OwnL.nil _ _,Below.refl _ _⟩
 case round=>
  obtain⟨i,m,A3,c3,rfl,rfl,hi,hm,hO,hb⟩:=hrel
  have HM:=hd_ hm
  have hm8:m<=8:=by omega
  clear hm
  by_cases hlt:i<8
  · have hx:=idx41_f ad HV.out.admins i hlt wr;have hsn:=admB_snoc (ad:=ad) (i:=i) (by rw[HV.out.admins];exact hlt);obtain⟨b,hbb⟩:∃b,ad.getD i false=b:=⟨_,rfl⟩;rw[hbb]at hx hsn;have HX:=hd_ hx;have HSN:=hd_ hsn;clear hx hbb hsn;obtain⟨l3,hl3e⟩:=ex_ (admB (ad.take i));rw[<-hl3e]at hO HSN;have hrl:=hO.out.rd.1;(have hO3:wr.ownsRow w1.heap.size 5 1 (.slice A3 m c3) m (ints .u8 l3):=by have h:=hO.out;unfold OwnL at h;rw[<-hrl]at h;exact h);have hl3:=hrl;clear hl3e hrl
    cases b with
    | false=>
     have hb1:Bl wr (wr.alloc (.cells #[.int .u8 0] 5)):=b0_;have Hb1:=tb_ hb hb1;have HO3:=hd_ (own_below hO3 hb1);have HL3:=hd_ hl3;clear hb1 hO3 hl3;go_wp2_with (first|(refine wpList_index rfl 41 (.tmp 9) (.tmp 10) rfl _ _ _ rr rr HX.out ?_)|(at_builtin;refine append_rg rfl (.tmp 14) (.tmp 16) 31 rfl w1.heap.size 5 1 1 et31 (.slice A3 m c3) m (ints .u8 l3) rfl HO3.out (some ⟨wr.heap.size,0,none⟩) 1 1 (ints .u8 [0]) rfl (rg_one wr 0) ints_one o_ (by unfold maxLen;omega) Hb1.out.size ?_;intro A4 c4 w4 hown4 hgrow hb4 hat));(have HO4:Hid (OwnL w4 w1.heap.size (.slice A4 (m+1) c4) (admB (ad.take (i+1)))):=by rw[HSN.out];exact OwnL.app rfl (by rw[<-HL3.out];exact hown4));have Hb4:=hd_ (Hb1.out.trans hb4);clear hown4 hgrow hb4 hat;go_wp2_with fail;exact⟨⟨i+1,m+1,A4,c4,by go_num,rfl,by omega,by have:=HM.out;omega,HO4,Hb4⟩,by simp[intOf];omega⟩
    | true=>
     have hb1:Bl wr (wr.alloc (.cells #[.int .u8 1] 5)):=b0_;have Hb1:=tb_ hb hb1;have HO3:=hd_ (own_below hO3 hb1);have HL3:=hd_ hl3;clear hb1 hO3 hl3;go_wp2_with (first|(refine wpList_index rfl 41 (.tmp 9) (.tmp 10) rfl _ _ _ rr rr HX.out ?_)|(at_builtin;refine append_rg rfl (.tmp 14) (.tmp 16) 31 rfl w1.heap.size 5 1 1 et31 (.slice A3 m c3) m (ints .u8 l3) rfl HO3.out (some ⟨wr.heap.size,0,none⟩) 1 1 (ints .u8 [1]) rfl (rg_one wr 1) ints_one o_ (by unfold maxLen;omega) Hb1.out.size ?_;intro A4 c4 w4 hown4 hgrow hb4 hat));(have HO4:Hid (OwnL w4 w1.heap.size (.slice A4 (m+1) c4) (admB (ad.take (i+1)))):=by rw[HSN.out];exact OwnL.app rfl (by rw[<-HL3.out];exact hown4));have Hb4:=hd_ (Hb1.out.trans hb4);clear hown4 hgrow hb4 hat;go_wp2_with fail;exact⟨⟨i+1,m+1,A4,c4,by go_num,rfl,by omega,by have:=HM.out;omega,HO4,Hb4⟩,by simp[intOf];omega⟩
  · (have hm:m=8:=by have:=HM.out;omega);subst hm;(have hi8:i=8:=by omega);obtain⟨l8,hl8e⟩:=ex_ (admB ad);(have e8:admB (ad.take i)=l8:=by rw[hl8e,hi8,List.take_of_length_le (by rw[HV.out.admins];exact Nat.le_refl _)]);rw[e8]at hO;have HL8E:=hd_ hl8e;clear e8 hl8e hi8;clear HM hm8;have HC5:=hd_ (HC.out.below hb.out HC.out.lt);go_wp2_with (refine wpList_load_mid rfl 40 (.tmp 19) rr w.heap.size 1 rr (ints .i64 t) _ (vw_trange HV.out HC5.out) underlying40 rfl (hi40 HV.out.tree).out ?_);refine(tHash_f t wr HV.out.tree).mono ?_;rintro _ w6 ⟨rfl,hb6⟩;have hlh:=thF_len t;obtain⟨lh,hlhe⟩:∃l,l=thF t:=⟨_,rfl⟩;rw[<-hlhe]at hlh ⊢;have HLHE:=hd_ hlhe;clear hlhe;have HC6:=hd_ (HC5.out.below hb6 HC5.out.lt);have Hb6:=tb_ hb hb6;have HO6:=hd_ (hO.out.below hb6);have HLh:=hd_ hlh;clear hb6 hlh
    go_wp2_with (refine store_blk rfl 43 (.tmp 7) (.tmp 21) rr w6.heap.size .u8 lh rr rr (Row.new zl _ rfl rfl) HLh.out (by show _=_;rw[HLh.out];exact info43) ?_
                 intro w7 hB7 hg7
                 have HH7:=hd_ hB7
                 have hb7:Bl w6 w7:=b0_.grown hg7 s_ (fun k hk=>by cases hk;omega)
                 have HC7:=hd_ (HC6.out.below hb7 HC6.out.lt)
                 have HO7:=hd_ (HO6.out.below hb7)
                 have Hb7:=tb_ Hb6 hb7
                 clear hB7 hg7 hb7)
    refine pr_ 0 13 (bt 13 0) fun w1d hw1d=>?_;refine mG ?_;obtain⟨w8,hw8⟩:=ex_ (w1d);(have HC8:Hid (Cel w8 w.heap.size 45 (vw e t ad k ch)):=by rw[hw8,<- hw1d];exact HC7.out);(have Hb8:Hid (Bl w1 w8):=by rw[hw8,<- hw1d];exact Hb7.out.drew);(have HH8:Hid (Blk w8 w6.heap.size .u8 43 lh):=by rw[hw8,<- hw1d];exact HH7.out);(have HO8:Hid (OwnL w8 w1.heap.size (.slice A3 8 c3) l8):=by rw[hw8,<- hw1d];exact World.ownsRow.drew HO7.out);(have hH:w1d.cell? ⟨w.heap.size,0,none⟩=some (.int .i64 e)/\w1d.cell? ⟨w.heap.size,40,none⟩=some (.int .i64 k)/\Hid (Bl w8 w1d):=by rw[<-hw8];exact⟨HC8.out.cell 0,(HC8.out.cell 40).trans (vw_k HV.out),Below.refl _ _⟩);clear hw1d hw8;refine wpAny_of_last (S:=fun w'=>w'.cell? ⟨w.heap.size,0,none⟩=some (.int .i64 e)/\w'.cell? ⟨w.heap.size,40,none⟩=some (.int .i64 k)/\Hid (Bl w8 w')) (ds:=[11,12]) _ _ _ _ ?_;refine ts_ 0 4 9 (bt 13 15) hH ?_;refine mD ?_;(repeat (first|(refine tk_ 43 (.tmp 22) w.heap.size 41 (ints .u8 ch) (fun _ h=>vw_crange HV.out (HC8.out.below h.2.2.out HC8.out.lt)) underlying43 rfl HIc.out ?_)|(refine uA ?_)|(refine mB3 ?_)));refine takes_nil ?_;refine ts_ 5 2 7 (bt 13 111) hH ?_;refine mD ?_;(repeat (first|(refine tk_ 43 (.tmp 22) w.heap.size 41 (ints .u8 ch) (fun _ h=>vw_crange HV.out (HC8.out.below h.2.2.out HC8.out.lt)) underlying43 rfl HIc.out ?_)|(refine uA ?_)|(refine mB3 ?_)));refine takes_nil ?_;refine ts_ 8 2 5 (bt 13 879) hH ?_;refine mD ?_;(repeat (first|(refine tk_ 43 (.tmp 22) w.heap.size 41 (ints .u8 ch) (fun _ h=>vw_crange HV.out (HC8.out.below h.2.2.out HC8.out.lt)) underlying43 rfl HIc.out ?_)|(refine uA ?_)|(refine mB3 ?_)));refine takes_nil ?_;refine one_ (i:=4) (N:=some 26) (bt 13 895) rfl rfl kk dd (fun K hK=>?_);refine goes_ func38 kk rfl #[.int .i64 e] rr rfl rfl mL ?_;refine(num_f e _).mono ?_;rintro _ w4 ⟨⟨A4,c4,rfl,ho4⟩,hb4⟩;have hl4:=numF_len e;obtain⟨l4,hle4⟩:∃l,l=numF e:=⟨_,rfl⟩;rw[<-hle4]at ho4 hl4;have HLE4:=hd_ hle4;clear hle4;refine⟨_,rfl,?_⟩;have HR4:Hid (Rd w4 .u8 A4 8 c4 l4):=rd_own ho4 hl4;have hs4:w8.heap.size<=w4.heap.size:=Nat.le_trans hH.2.2.out.size hb4.size;refine hK.out _ _ ⟨(hb4.cell (Nat.lt_of_lt_of_le HC8.out.lt hH.2.2.out.size)).trans hH.1,(hb4.cell (Nat.lt_of_lt_of_le HC8.out.lt hH.2.2.out.size)).trans hH.2.1,hH.2.2.out.trans (hb4.mono hH.2.2.out.size)⟩ (fun hH=>?_);clear hK K ho4 hl4 hb4;refine mN ?_;refine one_ (i:=7) (N:=some 29) (bt 13 1023) rfl rfl kk dd (fun K hK=>?_);refine goes_ func38 kk rfl #[.int .i64 k] rr rfl rfl mL ?_;refine(num_f k _).mono ?_;rintro _ w5 ⟨⟨A5,c5,rfl,ho5⟩,hb5⟩;have hl5:=numF_len k;obtain⟨l5,hle5⟩:∃l,l=numF k:=⟨_,rfl⟩;rw[<-hle5]at ho5 hl5;have HLE5:=hd_ hle5;clear hle5;refine⟨_,rfl,?_⟩;have HR5:Hid (Rd w5 .u8 A5 8 c5 l5):=rd_own ho5 hl5;have hs5:w8.heap.size<=w5.heap.size:=Nat.le_trans hH.2.2.out.size hb5.size;refine hK.out _ _ ⟨(hb5.cell (Nat.lt_of_lt_of_le HC8.out.lt hH.2.2.out.size)).trans hH.1,(hb5.cell (Nat.lt_of_lt_of_le HC8.out.lt hH.2.2.out.size)).trans hH.2.1,hH.2.2.out.trans (hb5.mono hH.2.2.out.size)⟩ (fun hH=>?_);have HR45:=hd_ (HR4.out.below hb5);clear hK K ho5 hl5 hb5;refine mN ?_;refine one_ (i:=10) (N:=some 32) (bt 13 2047) rfl rfl kk dd (fun K hK=>?_);refine value_ rr rfl (v:=.slice (some ⟨w5.heap.size,0,none⟩) 4 4) (w1:=w5.alloc (.cells #[.slice A4 8 c4,.slice A5 8 c5,.slice A3 8 c3,.slice (some ⟨w6.heap.size,0,none⟩) 32 32] 31)) (by go_simp) ?_;have hbB:Bl w5 (w5.alloc (.cells #[.slice A4 8 c4,.slice A5 8 c5,.slice A3 8 c3,.slice (some ⟨w6.heap.size,0,none⟩) 32 32] 31)):=b0_;have HbC:=hH.2.2;refine hK.out _ _ ⟨(hbB.cell (Nat.lt_of_lt_of_le HC8.out.lt hH.2.2.out.size)).trans hH.1,(hbB.cell (Nat.lt_of_lt_of_le HC8.out.lt hH.2.2.out.size)).trans hH.2.1,hH.2.2.out.trans (hbB.mono hH.2.2.out.size)⟩ (fun hH=>?_);clear hK K hbB;refine mN ?_;refine tl_ 11 ?_;refine mF ?_;have HH9:=hd_ (HH8.out.below HbC.out HH8.out.lt);have hl8:=(HO8.out.below HbC.out).rd.2;have HR8:=hd_ hl8;have Hb9:=hd_ (Hb8.out.trans (HbC.out.mono Hb8.out.size))
    have HRR:Hid (RdR (w5.alloc (.cells #[.slice A4 8 c4,.slice A5 8 c5,.slice A3 8 c3,.slice (some ⟨w6.heap.size,0,none⟩) 32 32] 31)) (some ⟨w5.heap.size,0,none⟩) 4 4 60000 [(A4,8,c4,l4),(A5,8,c5,l5),(A3,8,c3,l8),(some ⟨w6.heap.size,0,none⟩,32,32,lh)]):=rdr_new w5 [(A4,8,c4,l4),(A5,8,c5,l5),(A3,8,c3,l8),(some ⟨w6.heap.size,0,none⟩,32,32,lh)] _ 4 rfl rfl (fun r hr=>by
     simp at hr
     rcases hr with rfl|rfl|rfl|rfl
     · exact⟨HR45.out,by show 8<=_;omega⟩
     · exact⟨HR5.out,by show 8<=_;omega⟩
     · exact⟨HR8.out,by show 8<=_;omega⟩
     · exact⟨rd_blk HH9.out HLh.out,by show 32<=_;omega⟩)
    have HbA:Hid (Bl w1 (w5.alloc (.cells #[.slice A4 8 c4,.slice A5 8 c5,.slice A3 8 c3,.slice (some ⟨w6.heap.size,0,none⟩) 32 32] 31))):=Hb9.out.alloc Hb9.out.size _;clear hl8;go_wp2_with fail;change Calls prog 37 #[.agg (ints .u8 ch).toArray,_,_] _ _;obtain⟨lz,hlze⟩:∃l,l=vhF e k t ch ad:=⟨_,rfl⟩;refine(derive_l ch _ _ 4 4 _ _ HV.out.chain dd HRR.out o_ lz (by rw[hlze];unfold vhF;rw[<-HLHE.out,<- HL8E.out,<- HLE4.out,<- HLE5.out];simp[catL];rfl)).mono ?_;rintro _ wz ⟨rfl,hbz⟩;(have hlz:lz.length=32:=by rw[hlze];exact vhF_len _ _ _ _ _);have HLZE:=hd_ hlze;clear hlze;have Hbz:=tb_ HbA hbz;have HRz:=HZ.out.below Hbz.out HZ.out.lt;have HLz:=hd_ hlz;have hS:w.heap.size+1<w1.heap.size:=HZ.out.lt;clear hbz hlz;go_wp2_with (refine store_blk rfl 43 (.tmp 2) (.tmp 33) rr (w.heap.size+1) .u8 lz rr rr HRz HLz.out (by show _=_;rw[HLz.out];exact info43) ?_;intro w10 hB10 hg10);have hload:=hB10.loads underlying43 rfl (by show _=_;rw[HLz.out];exact info43);refine bodyPost_ret (v:=.agg (ints .u8 lz).toArray) (by simp[results,results97,asAddr,Act.put,hload]) rfl ⟨by rw[HLZE.out],?_⟩;exact(Hb.out.trans (Hbz.out.mono Hb.out.size)).grown hg10 (Nat.le_trans Hb.out.size Hbz.out.size) (fun k hk=>by cases hk;omega)
theorem paper_f(e k f:Int)(t ch:List Int)(ad:List Bool)(A:Option Addr)(n c:Nat)(l:List Int)(w:World)(h:VwOk t ad ch)(hr:OpsR w A n c l)(hn:n<=1000):Calls prog 63 #[.agg (vw e t ad k ch).toArray,.int .i64 f,.slice A n c] w fun r w'=>r=.returned (.agg (ints .u8 (papF e k f t ch ad l)).toArray)/\Bl w w':=by
 obtain⟨w1,hW⟩:=ex_ ((w.alloc (.cells (vw e t ad k ch).toArray 45)).alloc (.cells (ints .u8 zl).toArray 43));have HC:Hid (Cel w1 w.heap.size 45 (vw e t ad k ch)):=by rw[hW];exact(Cel.new _ rfl rfl).alloc _
 have HZ:Hid (Row w1 (w.heap.size+1) .u8 43 32):=by rw[hW];exact Row.new zl _ rfl s_
 have Hb:Hid (Bl w w1):=by rw[hW];exact bal b0_
 have HV:=hd_ h;have HR:Hid (OpsR w1 A n c l):=hr.below Hb.out;have HW:=hd_ hW;clear hW h hr;go_enter func63,ntmps63
 go_wp2_with ((change wpList _ _ _ _ _ ((w.alloc (.cells (vw e t ad k ch).toArray 45)).alloc (.cells (ints .u8 zl).toArray 43)));rw[<-HW.out];refine wpList_load_mid rfl 45 (.tmp 3) rr w.heap.size 0 rr (vw e t ad k ch) _ HC.out.all underlying45 rfl (vw_hi HV.out) ?_);refine(vHash_f e k t ch ad w1 HV.out).mono ?_;rintro _ w2 ⟨rfl,hb2⟩;have hlh:=vhF_len e k t ch ad;obtain⟨lh,hlhe⟩:∃l,l=vhF e k t ch ad:=⟨_,rfl⟩;rw[<-hlhe]at hlh ⊢;have HLHE:=hd_ hlhe;clear hlhe;have HR2:=hd_ (HR.out.below hb2);have HB2:=hd_ hb2;have HLh:=hd_ hlh;clear hb2 hlh;go_wp2_with fail;refine(num_f f w2).mono ?_;rintro _ w3 ⟨⟨A3,c3,rfl,ho3⟩,hb3⟩;have hl3:=numF_len f;obtain⟨l3,hle3⟩:∃l,l=numF f:=⟨_,rfl⟩;rw[<-hle3]at ho3 hl3;have HLE3:=hd_ hle3;clear hle3;have HR3:=hd_ (HR2.out.below hb3);have HB3:=tb_ HB2 hb3;have HN3:Hid (Rd w3 .u8 A3 8 c3 l3):=rd_own ho3 hl3;clear hb3 ho3 hl3;go_wp2_with fail;refine(vOps_f A n c l w3 HR3.out hn).mono ?_;rintro _ w4 ⟨⟨A4,c4,rfl,ho4⟩,hb4⟩;have HN4:=hd_ (HN3.out.below hb4);have HB4:=tb_ HB3 hb4;have hl4:=ho4.rd.2;obtain⟨l4,hl4e⟩:=ex_ (nums l);rw[<-hl4e]at hl4;have HL4E:=hd_ hl4e;clear hl4e
 have HRR:Hid (RdR (w4.alloc (.cells #[.slice A3 8 c3,.slice A4 (n*40) c4] 31)) (some ⟨w4.heap.size,0,none⟩) 2 2 60000 [(A3,8,c3,l3),(A4,n*40,c4,l4)]):=rdr_new w4 [(A3,8,c3,l3),(A4,n*40,c4,l4)] _ 2 rfl rfl (fun r hr=>by
  simp at hr
  rcases hr with rfl|rfl
  · exact⟨HN4.out,by show 8<=_;omega⟩
  · exact⟨hl4,by show n*40<=_;omega⟩)
 have HbA:Hid (Bl w1 (w4.alloc (.cells #[.slice A3 8 c3,.slice A4 (n*40) c4] 31))):=HB4.out.alloc HB4.out.size _;clear hb4 hl4 ho4;go_wp2_with fail;obtain⟨lz,hlze⟩:∃z,z=papF e k f t ch ad l:=⟨_,rfl⟩;refine(derive_l lh _ _ 2 2 _ _ HLh.out dd HRR.out o_ lz (by rw[hlze];unfold papF;rw[<-HLHE.out,<- HL4E.out,<- HLE3.out];simp[catL];rfl)).mono ?_;rintro _ wz ⟨rfl,hbz⟩;have hlz:lz.length=32:=by rw[hlze];exact papF_len _ _ _ _ _ _ _
 have HLZE:=hd_ hlze;clear hlze;have Hbz:=tb_ HbA hbz;have HRz:=HZ.out.below Hbz.out HZ.out.lt;have HLz:=hd_ hlz;have hS:w.heap.size+1<w1.heap.size:=HZ.out.lt;clear hbz hlz;go_wp2_with (refine store_blk rfl 43 (.tmp 6) (.tmp 14) rr (w.heap.size+1) .u8 lz rr rr HRz HLz.out (by show _=_;rw[HLz.out];exact info43) ?_;intro w10 hB10 hg10);have hload:=hB10.loads underlying43 rfl (by show _=_;rw[HLz.out];exact info43);refine bodyPost_ret (v:=.agg (ints .u8 lz).toArray) (by simp[results,results63,asAddr,Act.put,hload]) rfl ⟨by rw[HLZE.out],?_⟩;exact(Hb.out.trans (Hbz.out.mono Hb.out.size)).grown hg10 (Nat.le_trans Hb.out.size Hbz.out.size) (fun k hk=>by cases hk;omega)
end Go.Proofs.YtppjnahcnofokaaGreat.T
namespace Go.Proofs.YtppjnahcnofokaaGreat.T
open Go.RowKit Go.Proofs.YtppjnahcnofokaaGreatW.PrintLast
open Go.Proofs.Tryz
variable{k:IntKind}{a:Act}{b i n B base m fuel D B':Nat}{l ch p t0 q:List Int}{w w' w1 w2:World}{t:TypeId}{P:Int->Int->Prop}{cs:Array Value}{A A':Option Addr}{o oi:Oper}{e s f st fl:Int}{xs:List (List Int×Int×Int×Int)}{ops:Array Oper}{rest l0:List Oper}{v:Value}{r:Option Nat}{rs rs2:List (Option Addr×Nat×Nat×List Int)}{E:Prop}{vs l3:List Value}{ad ai go:List Bool}{N:Act->Prop}{place:Nat->Option (Nat×Nat)}{bad:Bool}{es es':List (Int×List Int)}{T:List TypeId}{ps:List (List Int)}
theorem isOp_t(d e:Int)(w:World):Calls prog 146 #[opv 1 0 0 d e] w fun r w'=>r=.returned (.bool true)/\Bl w w':=by
 unfold opv;go_enter func146,ntmps146
 go_wp2
 all_goals
  go_ret
  exact⟨by first|rfl|simp,b0_⟩
theorem odd_t(d e:Int)(w:World):Calls prog 145 #[opv 1 0 0 d e] w fun r w'=>r=.returned (.bool false)/\Bl w w':=by
 unfold opv;go_enter func145,ntmps145
 go_wp2_with fail;refine(isOp_t d e _).mono ?_;rintro _ w4 ⟨rfl,hb4⟩;have HB4:Hid (Bl w w4):=(bal (o:=.cells #[.int .i64 1,.int .i64 0,.int .i64 0,.int .i64 d,.int .i64 e] 55) (Below.refl w.heap.size w)).trans (hb4.mono s_);clear hb4;go_wp2_with fail;go_ret;exact⟨rfl,HB4.out⟩
def Adds(l:List Int)(n:Nat):Prop:=∀i,i<n->l[i*5]? = some 1/\l[i*5+1]? = some 0/\l[i*5+2]? = some 0
theorem idxOps_t(A:Option Addr)(n c:Nat)(l:List Int)(w:World)(hr:OpsR w A n c l)(hn:n<2 ^ 60)(ha:Adds l n):Calls prog 190 #[.slice A n c,.func (.func 145) #[] #[]] w fun r w'=>r=.returned (.int .i64 (-1))/\Bl w w':=by
 have HR:=hd_ hr;have HAD:=hd_ ha;clear hr ha;go_enter func190,ntmps190
 go_wp2_with fail;go_loopw [8] (fun v wr=>∃i:Nat,v=.int .i64 i/\i<=n/\Hid (Bl w wr)) (fun v _=>n-(intOf v).toNat)
 case atStart=>exact⟨0,rfl,by omega,Below.refl _ _⟩
 case round=>
  obtain⟨i,rfl,hi,hb⟩:=hrel;by_cases hlt:i<n
  · obtain⟨b,o,x0,x1,x2,x3,x4,rfl,_,c0,c1,c2,c3,c4,hx5⟩:=(HR.out.below hb.out).at5 i hlt;have hax:=HAD.out i hlt;(have e0:x0=1:=by have:=hx5 0 o_;rw[Nat.add_zero,hax.1]at this;injection this);(have e1:x1=0:=by have:=hx5 1 o_;rw[hax.2.1]at this;injection this);(have e2:x2=0:=by have:=hx5 2 o_;rw[hax.2.2]at this;injection this);subst e0 e1 e2;clear hx5 hax;have hcap:=HR.out.cap;go_wp2_with fail;refine(odd_t x3 x4 _).mono ?_;rintro _ w4 ⟨rfl,hb4⟩;have Hb4:=tb_ hb hb4;clear hb4 c0 c1 c2 c3 c4;go_wp2_with fail;go_roundw;(case rel=>exact⟨i+1,by go_num,by omega,Hb4⟩);case measure=>simp[intOf];omega
  go_wp2_with fail;go_ret;exact⟨rfl,hb.out⟩
theorem hasOps_t(A:Option Addr)(n c:Nat)(l:List Int)(w:World)(hr:OpsR w A n c l)(hn:n<2 ^ 60)(ha:Adds l n):Calls prog 148 #[.slice A n c,.func (.func 145) #[] #[]] w fun r w'=>r=.returned (.bool false)/\Bl w w':=by
 go_enter func148,ntmps148
 go_wp2_with fail;refine(idxOps_t A n c l w hr hn ha).mono ?_;rintro _ w4 ⟨rfl,hb4⟩;go_wp2_with fail;go_ret;exact⟨rfl,hb4⟩
theorem same_t(x y z:Int)(p:Addr)(w:World)(hp:p.block<w.heap.size)(hs:p.spot=none)(hc:w.cell? p=some (.int .i64 z)):Calls prog 210 #[.agg #[.int .i64 x,.int .i64 y],.pointer (some p)] w fun r w'=>r=.returned (.bool (x==z))/\Bl w w':=by
 obtain⟨b,o,sp⟩:=p;have hs':sp=none:=hs;subst hs';have hc2:(w.alloc (.cells #[.int .i64 x,.int .i64 y] 36)).cell? ⟨b,o,none⟩=some (.int .i64 z):=((b0_:Bl w _).cell hp).trans hc;clear hc;go_enter func210,ntmps210
 go_wp2_with fail;go_ret;exact⟨by first|rfl|simp,b0_⟩
theorem LeafR.at2{c:Nat}(h:LeafR w A n c l)(i:Nat)(hi:i<n):∃b o,A=some ⟨b,o,none⟩/\b<w.heap.size/\w.cell? ⟨b,o+i*2,none⟩=some (.int .i64 (l.getD (i*2) 0))/\w.cell? ⟨b,o+i*2+1,none⟩=some (.int .i64 (l.getD (i*2+1) 0)):=by
 have hcap:=h.cap;have hlen:=h.len;rw[ints_len]at hlen;obtain⟨b,o,e,hlt,hr⟩:=h.at_ o_;have hc:∀j,j<2->w.cell? ⟨b,o+(i*2+j),none⟩=some (.int .i64 (l.getD (i*2+j) 0)):=fun j hj=>
  hr (i*2+j) _ (ints_get (by rw[List.getD_eq_getElem?_getD,List.getElem?_eq_getElem o_];rfl))
 exact⟨b,o,e,hlt,hc 0 o_,hc 1 o_⟩
theorem idxLeaf_t(A:Option Addr)(n c:Nat)(l:List Int)(z:Int)(p:Addr)(w:World)(hr:LeafR w A n c l)(hn:n<2 ^ 60)(hp:p.block<w.heap.size)(hs:p.spot=none)(hc:w.cell? p=some (.int .i64 z))(hfr:∀i,i<n->l.getD (i*2) 0≠z):Calls prog 217 #[.slice A n c,.func (.func 210) #[] #[.pointer (some p)]] w fun r w'=>r=.returned (.int .i64 (-1))/\Bl w w':=by
 have HR:=hd_ hr;have HC:=hd_ hc;have HFR:=hd_ hfr;clear hr hc hfr;go_enter func217,ntmps217
 go_wp2_with fail;go_loopw [8] (fun v wr=>∃i:Nat,v=.int .i64 i/\i<=n/\Hid (Bl w wr)) (fun v _=>n-(intOf v).toNat)
 case atStart=>exact⟨0,rfl,by omega,Below.refl _ _⟩
 case round=>
  obtain⟨i,rfl,hi,hb⟩:=hrel;by_cases hlt:i<n
  · obtain⟨b,o,rfl,_,c0,c1⟩:=(HR.out.below hb.out).at2 i hlt;have hne:=HFR.out i hlt;generalize l.getD (i*2) 0=x0 at c0 hne;generalize l.getD (i*2+1) 0=x1 at c1;have hcap:=HR.out.cap;go_wp2_with fail;refine(same_t x0 x1 z p _ (Nat.lt_of_lt_of_le hp hb.out.size) hs ((hb.out.cell hp).trans HC.out)).mono ?_;rintro _ w4 ⟨rfl,hb4⟩;rw[beq_eq_false_iff_ne.2 hne];have Hb4:=tb_ hb hb4;clear hb4 c0 c1 hne;go_wp2_with fail;go_roundw;(case rel=>exact⟨i+1,by go_num,by omega,Hb4⟩);case measure=>simp[intOf];omega
  go_wp2_with fail;go_ret;exact⟨rfl,hb.out⟩
theorem hasLeaf_t(A:Option Addr)(n c:Nat)(l:List Int)(z:Int)(p:Addr)(w:World)(hr:LeafR w A n c l)(hn:n<2 ^ 60)(hp:p.block<w.heap.size)(hs:p.spot=none)(hc:w.cell? p=some (.int .i64 z))(hfr:∀i,i<n->l.getD (i*2) 0≠z):Calls prog 211 #[.slice A n c,.func (.func 210) #[] #[.pointer (some p)]] w fun r w'=>r=.returned (.bool false)/\Bl w w':=by
 go_enter func211,ntmps211
 go_wp2_with fail;refine(idxLeaf_t A n c l z p w hr hn hp hs hc hfr).mono ?_;rintro _ w4 ⟨rfl,hb4⟩;go_wp2_with fail;go_ret;exact⟨rfl,hb4⟩
theorem findLeaf_t(A:Option Addr)(n c:Nat)(l:List Int)(x y:Int)(w:World)(hr:LeafR w A n c l)(hn:n<2 ^ 60)(q:Nat)(hq:q<n)(hqx:l.getD (q*2) 0=x)(hqy:l.getD (q*2+1) 0=y)(hfr:∀i,i<q->l.getD (i*2) 0≠x):Calls prog 212 #[.slice A n c,.agg #[.int .i64 x,.int .i64 y]] w fun r w'=>r=.returned (.int .i64 q)/\Bl w w':=by
 have HR:=hd_ hr;have HFR:=hd_ hfr;have HQX:=hd_ hqx;have HQY:=hd_ hqy;clear hr hfr hqx hqy;go_enter func212,ntmps212
 go_wp2_with fail;go_loopw [8] (fun v wr=>∃i:Nat,v=.int .i64 i/\i<=q/\Hid (Bl w wr)/\wr.cell? ⟨w.heap.size,0,none⟩=some (.int .i64 x)/\wr.cell? ⟨w.heap.size,1,none⟩=some (.int .i64 y)) (fun v _=>n-(intOf v).toNat)
 case atStart=>exact⟨0,rfl,by omega,b0_,by simp,by simp⟩
 case round=>
  obtain⟨i,rfl,hi,hb,d0,d1⟩:=hrel;by_cases hlt:i<n
  · obtain⟨b,o,rfl,_,c0,c1⟩:=(HR.out.below hb.out).at2 i hlt;have hne:i<q->l.getD (i*2) 0≠x:=HFR.out i;(have heq:i=q->x=l.getD (i*2) 0/\y=l.getD (i*2+1) 0:=fun e=>by rw[e];exact⟨HQX.out.symm,HQY.out.symm⟩);generalize l.getD (i*2) 0=x0 at c0 hne heq;generalize l.getD (i*2+1) 0=x1 at c1 heq;have HNE:=hd_ hne;have HEQ:=hd_ heq;clear hne heq;have hcap:=HR.out.cap;go_wp2_with fail;refine still_tail 5 mixed kk (fun W4 hW4=>?_);refine mD ?_;(have hd:∀a,wr.cell? a=W4.cell? a:=fun a=>by rw[<-hW4];rfl);(have HB4:Hid (Bl w W4):=by rw[<-hW4];exact hb.out.drew);have D0:Hid (W4.cell? ⟨w.heap.size,0,none⟩=some (.int .i64 x)):=(hd _).symm.trans d0;have D1:Hid (W4.cell? ⟨w.heap.size,1,none⟩=some (.int .i64 y)):=(hd _).symm.trans d1;have e0:=D0.out;have e1:=D1.out;rw[hd]at c0 c1;clear hd hW4 d0 d1;(repeat still_step);refine wpStill_nil ?_;by_cases hx:x=x0;(· subst hx;by_cases hy:y=x1;(· subst hy;go_wp2;go_ret;(have hiq:i=q:=by(rcases Nat.lt_or_ge i q with h|h);(· exact absurd rfl (HNE.out h));omega);exact⟨by rw[<-hiq];rfl,HB4.out⟩);exfalso;(rcases Nat.lt_or_ge i q with h|h);(· exact HNE.out h rfl);exact hy (HEQ.out o_).2);(have hiq:i<q:=by(rcases Nat.lt_or_ge i q with h|h);(· exact h);exact absurd (HEQ.out o_).1 hx);go_wp2;go_roundw;(case rel=>exact⟨i+1,by go_num,by omega,HB4,D0.out,D1.out⟩);case measure=>simp[intOf];omega
  exfalso;omega
end Go.Proofs.YtppjnahcnofokaaGreat.T
namespace Go.Proofs.YtppjnahcnofokaaGreat.T
open Go.RowKit Go.Proofs.YtppjnahcnofokaaGreatW.PrintLast
open Go.Proofs.Tryz
variable{k:IntKind}{a:Act}{b i n B base m fuel D B':Nat}{l ch p t0 q:List Int}{w w' w1 w2:World}{t:TypeId}{P:Int->Int->Prop}{cs:Array Value}{A A':Option Addr}{o oi:Oper}{e s f st fl:Int}{xs:List (List Int×Int×Int×Int)}{ops:Array Oper}{rest l0:List Oper}{v:Value}{r:Option Nat}{rs rs2:List (Option Addr×Nat×Nat×List Int)}{E:Prop}{vs l3:List Value}{ad ai go:List Bool}{N:Act->Prop}{place:Nat->Option (Nat×Nat)}{bad:Bool}{es es':List (Int×List Int)}{T:List TypeId}{ps:List (List Int)}
theorem tIs_t(t:List Int)(w:World)(hok:TreeOk t):Calls prog 189 #[.agg (ints .i64 t).toArray] w fun r w'=>r=.returned (.bool true)/\Bl w w':=by
 obtain⟨w1,hW⟩:=ex_ (w.alloc (.cells (ints .i64 t).toArray 40));have HB:Hid (Blk w1 w.heap.size .i64 40 t):=by rw[hW];exact blk40 w t
 have Hb:Hid (Bl w w1):=by rw[hW];exact b0_
 have ht:=hok.len;obtain⟨l,hl⟩:=ex_ (t.take 16);obtain⟨m,hm⟩:=ex_ (t.drop 16);have HL:Hid (l.length=16):=by show _=_;rw[hl,List.length_take];omega
 have HM:Hid (m.length=15):=by show _=_;rw[hm,List.length_drop];omega
 have HRl:Hid (∀w',Bl w1 w'->w'.rangeAt w.heap.size 0 (ints .i64 l)):=fun w' h=>by rw[hl];exact range_take (HB.out.below h HB.out.lt).range 16
 have HRm:Hid (∀w',Bl w1 w'->w'.rangeAt w.heap.size 16 (ints .i64 m)):=fun w' h=>by rw[hm];exact range_drop (HB.out.below h HB.out.lt).range 16
 have HIl:Hid ((prog.info? 37).map (·.size)=some (ints .i64 l).length):=by show _=_;rw[ints_len,HL.out];exact info37
 have HIm:Hid ((prog.info? 38).map (·.size)=some (ints .i64 m).length):=by show _=_;rw[ints_len,HM.out];exact info38
 have HLF:Hid (∀j,j<8->LfO l j):=fun i hi=>by have:=hok.leaf i hi;rw[hl];unfold LfO;rwa [getD_take o_,getD_take o_]
 have HND:Hid (∀j,j<15->NdO m j):=fun i hi=>by have:=hok.node i hi;rw[hm];unfold NdO;rwa [getD_drop]
 have HW:=hd_ hW;clear hW hl hm hok;go_enter func189,ntmps189
 go_wp2_with ((change wpList _ _ _ _ _ (w.alloc (.cells (ints .i64 t).toArray 40)));rw[<-HW.out];refine wpList_load_mid rfl 37 (.tmp 7) rr w.heap.size 0 rr (ints .i64 l) _ (HRl.out _ (Below.refl _ _)) underlying37 rfl HIl.out ?_);go_loopw [9] (fun v wr=>∃i:Nat,v=.int .i64 i/\i<=8/\Hid (Bl w1 wr)) (fun v _=>8-(intOf v).toNat)
 case atStart=>exact⟨0,rfl,by omega,Below.refl _ _⟩
 case round=>
  obtain⟨i,rfl,hi,hb⟩:=hrel;by_cases hlt:i<8
  · obtain⟨x,y,hx0,hy0,hix⟩:=idx37 l HL.out i hlt wr;have HX0:=hd_ (getD_of hx0);have HY0:=hd_ (getD_of hy0);clear hx0 hy0;have HIX:=hd_ hix;clear hix;go_wp2_with (refine wpList_index rfl 37 (.tmp 8) (.tmp 9) rfl _ _ _ rr rr HIX.out ?_);have hb4:=(hb.out.alloc hb.out.size (.cells #[.int .i64 x,.int .i64 y] 36));have Hb5:=hd_ hb4;have Hb4:=tb_ Hb hb4;clear hb4 HIX hb;refine(isKey_any _ _).mono ?_;rintro _ w4 ⟨rfl,rfl⟩
    cases hkx:keyB x with
    | false=>exact absurd (HLF.out i hlt).1 (by rw[HX0.out,hkx];decide)
    | true=>
     have HKX:=hd_ hkx;clear hkx;go_wp2_with fail;refine(isKey_any _ _).mono ?_;rintro _ w4 ⟨rfl,rfl⟩
     cases hky:keyB y with
     | false=>exact absurd (HLF.out i hlt).2.1 (by rw[HY0.out,hky];decide)
     | true=>
      have HKY:=hd_ hky;clear hky;(cases hx:(x==0)<;>cases hy:(y==0));(case' false.true=>exact absurd ((HLF.out i hlt).2.2.2 (by rw[HY0.out];simpa using hy)) (by rw[HX0.out];simpa using hx));(case' true.false=>exact absurd ((HLF.out i hlt).2.2.1 (by rw[HX0.out];simpa using hx)) (by rw[HY0.out];simpa using hy))
      all_goals
       go_wp2_with fail
       go_roundw
       case rel=>exact⟨i+1,by go_num,by omega,Hb5⟩
       case measure=>simp[intOf];omega
  have Hbr:Hid (Bl w wr):=Hb.out.trans (hb.out.mono Hb.out.size);go_wp2_with (refine wpList_load_mid rfl 38 (.tmp 32) rr w.heap.size 16 rr (ints .i64 m) _ (HRm.out _ hb.out) underlying38 rfl HIm.out ?_);go_loopw [34] (fun v w'=>∃j:Nat,v=.int .i64 j/\j<=15/\wr=w') (fun v _=>15-(intOf v).toNat)
  case atStart=>exact⟨0,rfl,by omega,rfl⟩
  case round=>
   obtain⟨j,rfl,hj,rfl⟩:=hrel;by_cases hlj:j<15
   · obtain⟨x,hx0,hix⟩:=idx38 m HM.out j hlj wr;have HX0:=hd_ (getD_of hx0);clear hx0;have HIX:=hd_ hix;clear hix;obtain⟨q,hq⟩:∃q,((j:Int).tmod 2==0)=q:=⟨_,rfl⟩;go_wp2_with (refine wpList_index rfl 38 (.tmp 33) (.tmp 34) rfl _ _ _ rr rr HIX.out ?_);refine(isKey_any _ _).mono ?_;rintro _ w4 ⟨rfl,rfl⟩
     cases hkx:keyB x with
     | false=>exact absurd (HND.out j hlj).1 (by rw[HX0.out,hkx];decide)
     | true=>
      have HKX:=hd_ hkx;clear hkx;have htm:(j:Int).tmod 2=(j:Int) % 2:=Int.tmod_eq_emod_of_nonneg o_;rw[htm]at hq;(have hq2:((j:Int).tmod 2==0)=q:=by rw[htm];exact hq);clear htm
      cases q with
      | false=>
       go_wp2_with fail;go_roundw;(case rel=>exact⟨j+1,by go_num,by omega,trivial⟩);case measure=>simp[intOf];omega
      | true=>
       cases hx:(x != 0) with
       | false=>
        go_wp2_with fail;go_roundw;(case rel=>exact⟨j+1,by go_num,by omega,trivial⟩);case measure=>simp[intOf];omega
       | true=>exact absurd ((HND.out j hlj).2 (by simp at hq;omega)) (by rw[HX0.out];simpa using hx)
   (obtain rfl:j=15:=by omega);go_wp2_with fail;go_ret;exact⟨rfl,Hbr.out⟩
theorem admins_t(e k:Int)(t ch:List Int)(ad:List Bool)(w:World)(h:VwOk t ad ch)(hme:∀j,j<8->ad.getD j false=true->memB t j=true):Calls prog 151 #[.agg (vw e t ad k ch).toArray] w fun r w'=>r=.returned (.int .i64 (admN ad 8))/\Bl w w':=by
 obtain⟨w1,hW⟩:=ex_ (w.alloc (.cells (vw e t ad k ch).toArray 45));have HC:Hid (Cel w1 w.heap.size 45 (vw e t ad k ch)):=by rw[hW];exact Cel.new _ rfl rfl
 have Hb:Hid (Bl w w1):=by rw[hW];exact b0_
 have HV:=hd_ h;have HW:=hd_ hW;have HR:Hid (w1.rangeAt w.heap.size 32 (bools ad)):=by
  have:=Cel.range (l1:=.int .i64 e :: ints .i64 t) (l2:=bools ad) (l3:=[.int .i64 k]++ints .u8 ch) (by simpa[vw] using HC.out);have e:(Value.int IntKind.i64 e :: ints .i64 t).length=32:=by simp[ints_len,h.tree]
  rw[e]at this;exact this
 have HI:Hid ((prog.info? 41).map (·.size)=some (bools ad).length):=by show _=_;rw[bools_len,h.admins];exact info41
 have HME:=hd_ hme;clear hW h hme;go_enter func151,ntmps151
 go_wp2_with ((change wpList _ _ _ _ _ (w.alloc (.cells (vw e t ad k ch).toArray 45)));rw[<-HW.out];refine wpList_load_mid rfl 41 (.tmp 6) rr w.heap.size 32 rr (bools ad) _ HR.out underlying41 rfl HI.out ?_);go_loopw [3,8] (fun vc v wr=>∃(i:Nat) (x:Int),v=.int .i64 i/\vc=.int .i64 x/\i<=8/\Hid (x=admN ad i)/\Hid (Bl w1 wr)) (fun _ v _=>8-(intOf v).toNat)
 case atStart=>exact⟨0,0,rfl,rfl,by omega,rfl,Below.refl _ _⟩
 case round=>
  obtain⟨i,x,rfl,rfl,hi,HA,hb⟩:=hrel;by_cases hlt:i<8
  · have HC2:=hd_ (HC.out.below hb.out HC.out.lt);have hx:=idx41_f ad HV.out.admins i hlt wr;obtain⟨b,hbb⟩:∃b,ad.getD i false=b:=⟨_,rfl⟩;rw[hbb]at hx;have HBB:=hd_ hbb;clear hbb;have HX:=hd_ hx;clear hx
    cases b with
    | false=>
     go_wp2_with (refine wpList_index rfl 41 (.tmp 7) (.tmp 8) rfl _ _ _ rr rr HX.out ?_);go_roundw;(case rel=>exact⟨i+1,x,by go_num,rfl,by omega,(by show _=_;rw[HA.out];show _=((admN ad i+_:Nat):Int);rw[HBB.out];simp),hb⟩);case measure=>simp[intOf];omega
    | true=>
     go_wp2_with (first|(refine wpList_index rfl 41 (.tmp 7) (.tmp 8) rfl _ _ _ rr rr HX.out ?_)|(refine load_g rr 45 (.tmp 1) rr w.heap.size 0 rr (vw e t ad k ch) _ HC2.out.all underlying45 rfl (vw_hi HV.out) ?_));refine(isMember_f e k i t ch ad _ HV.out).mono ?_;rintro _ w4 ⟨⟨b,rfl,-,hmem⟩,hb4⟩;have HM:=hd_ hmem;clear hmem;have Hb4:=tb_ hb hb4;clear hb4
     cases b with
     | false=>exact absurd (HM.out o_ o_ (HME.out i hlt HBB.out)) dd
     | true=>
      go_wp2_with fail;go_roundw;(case rel=>exact⟨i+1,_,by go_num,rfl,by omega,(by show _=_;rw[HA.out];show wrap64 _=((admN ad i+_:Nat):Int);rw[HBB.out];exact adm_wrap _ _ (admN_le ad i) hlt),Hb4⟩);case measure=>simp[intOf];omega
  obtain rfl:i=8:=by omega
  go_wp2_with fail;go_ret;exact⟨by rw[HA.out];rfl,Hb.out.trans (hb.out.mono Hb.out.size)⟩
theorem vIs_t(e k:Int)(t ch:List Int)(ad:List Bool)(w:World)(h:VwOk t ad ch)(hmv:MayV e k t ad):Calls prog 147 #[.agg (vw e t ad k ch).toArray] w fun r w'=>r=.returned (.bool true)/\Bl w w':=by
 obtain⟨w1,hW⟩:=ex_ (w.alloc (.cells (vw e t ad k ch).toArray 45));have HC:Hid (Cel w1 w.heap.size 45 (vw e t ad k ch)):=by rw[hW];exact Cel.new _ rfl rfl
 have Hb:Hid (Bl w w1):=by rw[hW];exact b0_
 have HV:=hd_ h;have HW:=hd_ hW;have HIT:Hid ((prog.info? 40).map (·.size)=some (ints .i64 t).length):=hi40 h.tree;have HMV:=hd_ hmv;clear hW h hmv;go_enter func147,ntmps147
 go_wp2_with fail;refine pr_ 19 7 (bt 26 524287) fun w1d hw1d=>?_;refine mG ?_;have h1d:Bl w1 w1d:=by rw[<-hw1d,<- HW.out];exact(Below.refl _ _).drew
 have HB1:=hd_ h1d;have HC1:Hid (Cel w1d w.heap.size 45 (vw e t ad k ch)):=HC.out.below h1d HC.out.lt;have c0:w1d.cell? ⟨w.heap.size,0,none⟩=some (.int .i64 e):=by rw[HC1.out.cell];rfl
 have c40:w1d.cell? ⟨w.heap.size,40,none⟩=some (.int .i64 k):=by rw[HC1.out.cell];exact vw_k HV.out
 clear h1d hw1d;by_cases h1:0<=e
 · by_cases h2:e<=1099511627776;(· go_wp2_with (refine load_g rr 40 (.tmp 12) rr w.heap.size 1 rr (ints .i64 t) _ (vw_trange HV.out HC1.out) underlying40 rfl HIT.out ?_);refine(tIs_t t _ HMV.out.tree).mono ?_;rintro _ w4 ⟨rfl,hb4⟩;have Hb4:=tb_ HB1 hb4;have c40':w4.cell? ⟨w.heap.size,40,none⟩=some (.int .i64 k):=(hb4.cell (Nat.lt_of_lt_of_le HC.out.lt HB1.out.size)).trans c40;clear c40 c0 hb4;have h3:=HMV.out.k1;go_wp2_with fail;refine wpAny_of_last (S:=fun w'=>w'.cell? ⟨w.heap.size,40,none⟩=some (.int .i64 k)/\Hid (Bl w1 w')) (ds:=[23,24,25]) _ _ _ _ ?_;have hH:=And.intro c40' Hb4;refine ts_ 19 3 4 (bt 26 4194303) hH ?_;refine mD ?_;(repeat (first|(refine tk_ 45 (.tmp 1) w.heap.size 0 (vw e t ad k ch) (fun _ h=>(HC.out.below h.2.out HC.out.lt).all) underlying45 rfl (vw_hi HV.out) ?_)|(refine uA ?_)|(refine mB2 ?_)));refine takes_nil ?_;refine one_ (i:=22) (N:=some 25) (bt 26 8388607) rfl rfl kk dd (fun K hK=>?_);refine goes_ func151 kk rfl #[.agg (vw e t ad k ch).toArray] rr rfl rfl mL ?_;refine(admins_t e k t ch ad _ HV.out HMV.out.mem).mono ?_;rintro _ w5 ⟨rfl,hb5⟩;refine⟨_,rfl,?_⟩;refine hK.out _ _ ⟨(hb5.cell (Nat.lt_of_lt_of_le HC.out.lt hH.2.out.size)).trans hH.1,hH.2.out.trans (hb5.mono hH.2.out.size)⟩ (fun hH=>?_);clear hK K hb5;refine mN ?_;refine tl_ 23 ?_;refine mF ?_;go_wp2;go_ret;exact⟨by rw[show decide (k<=(admN ad 8:Int))=true from by simpa using HMV.out.kn];rfl,Hb.out.trans (hH.2.out.mono Hb.out.size)⟩);exact absurd HMV.out.e1 h2
 exact absurd HMV.out.e0 h1
end Go.Proofs.YtppjnahcnofokaaGreat.T
namespace Go.Proofs.YtppjnahcnofokaaGreat.T
open Go.RowKit Go.Proofs.YtppjnahcnofokaaGreatW.PrintLast
open Go.Proofs.Tryz
variable{k:IntKind}{a:Act}{b i n B base m fuel D B':Nat}{l ch p t0 q:List Int}{w w' w1 w2:World}{t:TypeId}{P:Int->Int->Prop}{cs:Array Value}{A A':Option Addr}{o oi:Oper}{e s f st fl:Int}{xs:List (List Int×Int×Int×Int)}{ops:Array Oper}{rest l0:List Oper}{v:Value}{r:Option Nat}{rs rs2:List (Option Addr×Nat×Nat×List Int)}{E:Prop}{vs l3:List Value}{ad ai go:List Bool}{N:Act->Prop}{place:Nat->Option (Nat×Nat)}{bad:Bool}{es es':List (Int×List Int)}{T:List TypeId}{ps:List (List Int)}
structure AddOk (t:List Int) (x y:Int) (q:Nat):Prop where
 px:pubB x=true
 py:pubB y=true
 fr:∀i,i<8->t.getD (i*2) 0≠x
 q8:q<8
 q0:t.getD (q*2) 0=0
 q1:t.getD (q*2+1) 0=0
 qf:∀i,i<q->t.getD (i*2) 0≠0
theorem PutOk.adm{t:List Int}{q:Nat}{x y:Int}(h:PutOk t q x y l)(hx:pubB x=true)(hm:∀j,j<8->ad.getD j false=true->memB t j=true):∀j,j<8->ad.getD j false=true->memB l j=true:=fun j hj hd=>by
 by_cases e:j=q
 · subst e;exact h.mem_self (pub_key hx).2
 · rw[h.mem j hj e];exact hm j hj hd
def ChAd(t:List Int)(g:Nat)(e k f x y:Int)(ch:List Int)(ad ai go:List Bool)(q:Nat)(w:World)(r:Ending)(w':World):Prop:=
 (∃t2,r=.returned (.int .i64 0)/\PutOk t q x y t2/\Cel w' g 224 (chg e t2 ad k ch f (ai.set q true) go))/\w.grownBy w' (some g)
theorem chAdd_t(g:Nat)(e k f x y:Int)(t ch:List Int)(ad ai go:List Bool)(w:World)(ho:ChOk t ad ch ai go)(q:Nat)(hs:AddOk t x y q)(hg:Cel w g 224 (chg e t ad k ch f ai go)):Calls prog 191 #[.pointer (some ⟨g,0,none⟩),.agg #[.int .i64 x,.int .i64 y]] w (ChAd t g e k f x y ch ad ai go q w):=by
 obtain⟨w1,hW⟩:=ex_ (w.alloc (.cells #[.int .i64 x,.int .i64 y] 36));have HX:Hid (Blk w1 w.heap.size .i64 36 [x,y]):=by rw[hW];exact blk_new _ .i64 36 [x,y] _ rfl
 have HG:Hid (Cel w1 g 224 (chg e t ad k ch f ai go)):=by rw[hW];exact hg.alloc _
 have Hb:Hid (Bl w w1):=by rw[hW];exact b0_
 have HO:=hd_ ho;have HS:=hd_ hs;clear hs;have HG0:=hd_ hg;have HW:=hd_ hW;clear hW hg ho;go_enter func191,ntmps191
 go_wp2_with fail;refine(pIs_any _ _).mono ?_;rintro _ w2 ⟨rfl,rfl⟩;rw[HS.out.px]
 · go_wp2_with fail;refine(pIs_any _ _).mono ?_;rintro _ w2 ⟨rfl,rfl⟩;rw[HS.out.py]
   · have HL:Hid (LeafR w1 (some ⟨g,1,none⟩) 8 8 (t.take 16)):=chg_leaves HG.out HO.out.vw.tree;go_wp2_with fail;rw[<-HW.out];refine(hasLeaf_t (some ⟨g,1,none⟩) 8 8 (t.take 16) x ⟨w.heap.size,0,none⟩ w1 HL.out o_ HX.out.lt rfl (HX.out.cell rfl) (fun i hi=>by rw[getD_take o_];exact HS.out.fr i hi)).mono ?_;rintro _ w3 ⟨rfl,hb3⟩;have HG3:=hd_ (HG.out.below hb3 HG.out.lt);have HX3:=hd_ (HX.out.below hb3 HX.out.lt);have Hb3:Hid (Bl w w3):=Hb.out.trans (hb3.mono Hb.out.size);have HL3:Hid (LeafR w3 (some ⟨g,1,none⟩) 8 8 (t.take 16)):=chg_leaves HG3.out HO.out.vw.tree;clear hb3
     · go_wp2_with fail;refine(findLeaf_t (some ⟨g,1,none⟩) 8 8 (t.take 16) 0 0 w3 HL3.out o_ q HS.out.q8 (by have:=HS.out.q8;rw[getD_take o_];exact HS.out.q0) (by have:=HS.out.q8;rw[getD_take o_];exact HS.out.q1) (fun i hi=>by have:=HS.out.q8;rw[getD_take o_];exact HS.out.qf i hi)).mono ?_;rintro _ w4 ⟨rfl,hb4⟩;have HG4:=hd_ (HG3.out.below hb4 HG3.out.lt);have HX4:=hd_ (HX3.out.below hb4 HX3.out.lt);have Hb4:Hid (Bl w w4):=Hb3.out.trans (hb4.mono Hb3.out.size);clear hb4;have hm:=HS.out.q8
       · go_wp2_with fail;refine pr_ 0 13 (bt 13 0) fun w1d hw1d=>?_;refine mG ?_;(have HG5:Hid (Cel w1d g 224 (chg e t ad k ch f ai go)):=by rw[<-hw1d];exact HG4.out);(have HX5:Hid (Blk w1d w.heap.size .i64 36 [x,y]):=by rw[<-hw1d];exact HX4.out);(have Hb5:Hid (Bl w w1d):=by rw[<-hw1d];exact Hb4.out.drew);have c0:w1d.cell? ⟨w.heap.size,0,none⟩=some (.int .i64 x):=HX5.out.cell rfl;have c1:w1d.cell? ⟨w.heap.size,1,none⟩=some (.int .i64 y):=HX5.out.cell rfl;clear hw1d;refine wpAny_of_last (S:=fun w'=>w'=w1d) (ds:=[8,9,10,11,12]) _ _ _ _ ?_;have hH:w1d=w1d:=rfl;refine ps_ 0 1 12 (bt 13 1) ?_;refine mT1 ?_;refine ts_ 1 7 5 (bt 13 255) hH ?_;refine mD ?_;(repeat (first|(refine tk_ 40 (.tmp 42) g 1 (ints .i64 t) (fun _ h=>by rw[h];exact chg_tree HG5.out) underlying40 rfl (hi40 HO.out.vw.tree).out ?_)|(refine uA ?_)|(refine uS ?_)));refine takes_nil ?_;refine tl_ 8 ?_;refine mF ?_;go_wp2_with fail;refine(put_f t q x y w1d HO.out.vw.tree hm).mono ?_;rintro _ w6 ⟨⟨t2,hpo,rfl⟩,hb6⟩;have ht2:=hpo.len;have HS2:=hd_ hpo;clear hpo;have HG6:=hd_ (HG5.out.below hb6 HG5.out.lt);have Hb6:Hid (Bl w w6):=Hb5.out.trans (hb6.mono Hb5.out.size);have HO2:Hid (ChOk t2 ad ch ai go):=⟨⟨ht2,HO.out.vw.admins,HO.out.vw.chain⟩,HO.out.ai,HO.out.go⟩;have HI2:Hid ((prog.info? 40).map (·.size)=some (ints .i64 t2).length):=hi40 ht2;clear hb6 ht2 c0 c1 hH
         go_wp2_with (refine store_cel rfl 40 (.tmp 49) (.tmp 46) rr g 1 224 [.int .i64 e] (ints .i64 t) ((bools ad++([.int .i64 k]++ints .u8 ch))++([.int .i64 f]++(bools ai++bools go))) (ints .i64 t2) rr rr (chg_split HG6.out) rfl (by rw[ints_len,ints_len,HO.out.vw.tree,HO2.out.vw.tree]) HI2.out (all_ints _ _) ?_
                      intro w7 hc7 hg7
                      have HG7:Hid (Cel w7 g 224 (chg e t2 ad k ch f ai go)):=chg_join hc7
                      have Hg7:Hid (w.grownBy w7 (some g)):=grownBy_tr (grownBy_of Hb6.out) hg7
                      have d0:w7.cell? ⟨g,74+q,none⟩=some (.bool (ai.getD q false)):=by rw[HG7.out.cell,chg_ai HO2.out q hm]
                      have f0:=HG7.out.free (74+q)
                      clear hc7 hg7)
         go_ret;exact⟨⟨t2,rfl,HS2.out,by rw[<-chg_set_ai HO2.out q hm];exact HG7.out.set _ _⟩,grownBy_tr Hg7.out (grownBy_set1 _ _ _ _)⟩
theorem chOp_t(g:Nat)(e k f d e2:Int)(t ch:List Int)(ad ai go:List Bool)(w:World)(ho:ChOk t ad ch ai go)(q:Nat)(hs:AddOk t d e2 q)(hg:Cel w g 224 (chg e t ad k ch f ai go)):Calls prog 150 #[.pointer (some ⟨g,0,none⟩),opv 1 0 0 d e2] w (ChAd t g e k f d e2 ch ad ai go q w):=by
 obtain⟨w1,hW⟩:=ex_ (w.alloc (.cells #[.int .i64 1,.int .i64 0,.int .i64 0,.int .i64 d,.int .i64 e2] 55));have HG:Hid (Cel w1 g 224 (chg e t ad k ch f ai go)):=by rw[hW];exact hg.alloc _
 have Hb:Hid (Bl w w1):=by rw[hW];exact b0_
 have HO:=hd_ ho;have HS:=hd_ hs;clear hs;have HW:=hd_ hW;clear hg ho hW;unfold opv;go_enter func150,ntmps150
 go_wp2_with fail;rw[<-HW.out];refine(chAdd_t g e k f d e2 t ch ad ai go w1 HO.out q HS.out HG.out).mono ?_;rintro _ w5 ⟨⟨t2,rfl,hp2,hg2⟩,hb2⟩;go_wp2_with fail;go_ret;exact⟨⟨t2,rfl,hp2,hg2⟩,grownBy_tr (grownBy_of Hb.out) hb2⟩
theorem adds_one(x y:Int):Adds [1,0,0,x,y] 1:=fun i hi=>by
 obtain rfl:i=0:=by omega
 exact⟨rfl,rfl,rfl⟩
def ApT(e k:Int)(t ch:List Int)(ad:List Bool)(x y:Int)(q:Nat)(r:Ending):Prop:=∃t2,PutOk t q x y t2/\r=.returned (.tuple #[.agg (vw e t2 ad k ch).toArray,.agg (bools (zb.set q true)).toArray,.agg (bools zb).toArray,.int .i64 0])
def ApI(t:List Int)(x y:Int)(q i:Nat)(t2:List Int)(ai:List Bool):Prop:=(i=0/\t2=t/\ai=zb)\/(i=1/\PutOk t q x y t2/\ai=zb.set q true)
theorem apply_t(e k f:Int)(t ch:List Int)(ad:List Bool)(A:Option Addr)(c:Nat)(x y:Int)(q:Nat)(w:World)(h:VwOk t ad ch)(hr:OpsR w A 1 c [1,0,0,x,y])(hmv:MayV e k t ad)(hf:0<=f/\f<8/\memB t f.toNat=true)(hs:AddOk t x y q): Calls prog 94 #[.agg (vw e t ad k ch).toArray,.int .i64 f,.slice A 1 c] w fun r w'=>ApT e k t ch ad x y q r/\Bl w w':=by
 obtain⟨w1,hW⟩:=ex_ ((((w.alloc (.cells (vw e t ad k ch).toArray 45)).alloc (.cells zvw.toArray 45)).alloc (.cells (bools zb).toArray 41)).alloc (.cells (bools zb).toArray 41));have HC:Hid (Cel w1 w.heap.size 45 (vw e t ad k ch)):=by rw[hW];exact(((Cel.new _ rfl rfl).alloc _).alloc _).alloc _
 have HS:Hid (ApS w w1):=by rw[hW];exact⟨((Cel.new zvw s_ rfl).alloc _).alloc _,(Cel.new (bools zb) s_ rfl).alloc _,Cel.new (bools zb) s_ rfl,bal (bal (bal b0_))⟩
 have hsz1:w.heap.size+4<=w1.heap.size:=by rw[hW];simp
 have HR:Hid (OpsR w1 A 1 c [1,0,0,x,y]):=hr.below HS.out.below;have HV:=hd_ h;have HR0:=hd_ hr;have HW:=hd_ hW;have HM0:=hd_ hmv;have HF:=hd_ hf;have HAD:=hd_ hs;clear hW h hr hmv hf hs;go_enter func94,ntmps94
 go_wp2_with ((change wpList _ _ _ _ _ ((((w.alloc (.cells (vw e t ad k ch).toArray 45)).alloc (.cells zvw.toArray 45)).alloc (.cells (bools zb).toArray 41)).alloc (.cells (bools zb).toArray 41)));rw[<-HW.out];refine wpList_load_mid rfl 45 (.tmp 3) rr w.heap.size 0 rr (vw e t ad k ch) _ HC.out.all underlying45 rfl (vw_hi HV.out) ?_);refine(vIs_t e k t ch ad w1 HV.out HM0.out).mono ?_;rintro _ w2 ⟨rfl,hb2⟩;have hb12:=hb2.size;have HC2:=hd_ (HC.out.below hb2 HC.out.lt);have HS2:=hd_ (HS.out.bel hb2);have HR2:=hd_ (HR.out.below hb2);clear hb2;go_wp2_with fail;refine(hasOps_t A 1 c [1,0,0,x,y] w2 HR2.out o_ (adds_one x y)).mono ?_;rintro _ w3 ⟨rfl,hb3⟩;have hb13:=hb3.size;have HC3:=hd_ (HC2.out.below hb3 HC2.out.lt);have HS3:=hd_ (HS2.out.bel hb3);have HR3:=hd_ (HR2.out.below hb3);clear hb3;go_wp2_with (refine wpList_load_mid rfl 45 (.tmp 3) rr w.heap.size 0 rr (vw e t ad k ch) _ HC3.out.all underlying45 rfl (vw_hi HV.out) ?_);refine(isMember_f e k f t ch ad w3 HV.out).mono ?_;rintro _ w4 ⟨⟨qm,rfl,-,hq⟩,hb4⟩;obtain rfl:qm=true:=hq HF.out.1 HF.out.2.1 HF.out.2.2;have hb14:=hb4.size;have HC4:=hd_ (HC3.out.below hb4 HC3.out.lt);have HS4:=hd_ (HS3.out.bel hb4);have HR4:=hd_ (HR3.out.below hb4);clear hb4;clear hq;have hw4:w.heap.size+4<=w4.heap.size:=by omega
 have hbld:=run_build224 e k f t ch ad HV.out;have HBld:=hd_ (hbld w4);clear hbld;go_wp2_with (first|(refine wpList_load_mid rfl 45 (.tmp 3) rr w.heap.size 0 rr (vw e t ad k ch) _ HC4.out.all underlying45 rfl (vw_hi HV.out) ?_)|(refine wpList_build rfl 224 _ rr #[(0,.agg (vw e t ad k ch).toArray),(1,.int .i64 f)] (by simp only[List.map_toArray,List.map_cons,List.map_nil];rfl) _ HBld.out ?_));obtain⟨g,hg⟩:∃g,w4.heap.size=g:=⟨_,rfl⟩;obtain⟨w5,hW5⟩:=ex_ (w4.alloc (.cells (chg e t ad k ch f zb zb).toArray 224));have HG5:Hid (Cel w5 g 224 (chg e t ad k ch f zb zb)):=by rw[hW5];exact Cel.new _ hg rfl
 have HS5:Hid (ApS w w5):=by rw[hW5];exact HS4.out.bel b0_
 have hg4:w.heap.size+4<=g:=by omega
 have HW5:=hd_ hW5;clear hW5;rw[hg];go_loopw [46] (fun v wr=>∃(i:Nat) (t2:List Int) (ai:List Bool),v=.int .i64 i/\i<=1/\Hid (ApI t x y q i t2 ai)/\Hid (ChOk t2 ad ch ai zb)/\Hid (Cel wr g 224 (chg e t2 ad k ch f ai zb))/\Hid (ApS w wr)) (fun v _=>1-(intOf v).toNat)
 case atStart=>rw[<-HW5.out];exact⟨0,t,zb,rfl,Nat.zero_le _,.inl ⟨rfl,rfl,rfl⟩,⟨HV.out,rfl,rfl⟩,HG5,HS5⟩
 case round=>
  clear HG5 HS5 HW5;obtain⟨i,t2,ai,rfl,hi,HCS,HO,HG,HSr⟩:=hrel;by_cases hlt:i<1
  · (obtain rfl:i=0:=by omega);(have hA:AddOk t2 x y q:=by rcases HCS.out with⟨_,e2,_⟩|⟨h0,_⟩;(· rw[e2];exact HAD.out);(· exact absurd h0 dd));have HA2:=hd_ hA;clear hA;obtain⟨b,o,x0,x1,x2,x3,x4,rfl,_,d0,d1,d2,d3,d4,hx5⟩:=(HR0.out.below HSr.out.below).at5 0 hlt;(obtain rfl:x0=1:=by have:=hx5 0 o_;exact Option.some.inj this);(obtain rfl:x1=0:=by have:=hx5 1 o_;exact Option.some.inj this);(obtain rfl:x2=0:=by have:=hx5 2 o_;exact Option.some.inj this);(obtain rfl:x3=x:=by have:=hx5 3 o_;exact Option.some.inj this);(obtain rfl:x4=y:=by have:=hx5 4 o_;exact Option.some.inj this);clear hx5;simp only[Nat.zero_mul,Nat.add_zero]at d0 d1 d2 d3 d4;have hcap:=HR0.out.cap;obtain⟨wA,hWA⟩:=ex_ (wr.alloc (.cells #[.int .i64 1,.int .i64 0,.int .i64 0,.int .i64 x3,.int .i64 x4] 55));(have HGA:Hid (Cel wA g 224 (chg e t2 ad k ch f ai zb)):=by rw[hWA];exact HG.out.alloc _);(have HSA:Hid (ApS w wA):=by rw[hWA];exact HSr.out.bel b0_);have HWA:=hd_ hWA;clear hWA;go_wp2_with fail;rw[<-HWA.out];refine(chOp_t g e k f x3 x4 t2 ch ad ai zb wA HO.out q HA2.out HGA.out).mono ?_;rintro _ wB ⟨⟨t3,rfl,hp3,hg3⟩,hb3⟩;(have HS3':Hid (ApI t x3 x4 q 1 t3 (ai.set q true)):=by(rcases HCS.out with⟨_,e2,e3⟩|⟨h0,_⟩);(· subst e2 e3;exact .inr ⟨rfl,hp3,rfl⟩);exact absurd h0 dd);have HO3:Hid (ChOk t3 ad ch (ai.set q true) zb):=⟨⟨hp3.len,HV.out.admins,HV.out.chain⟩,by rw[List.length_set];exact HO.out.ai,HO.out.go⟩;have HG3:=hd_ hg3;have HSB:=hd_ (HSA.out.gr hb3 hg4);clear hp3 hg3 hb3 d0 d1 d2 d3 d4;go_wp2_with fail;go_roundw;(case rel=>exact⟨0+1,t3,_,by go_num,by omega,HS3',HO3,HG3,HSB⟩);case measure=>first|(simp[intOf];done)|(simp[intOf];omega)
  obtain rfl:i=1:=by omega
  have HPO:Hid (PutOk t q x y t2/\ai=zb.set q true):=by(rcases HCS.out with⟨h0,_⟩|⟨_,h1,h2⟩);(· exact absurd h0 dd);exact⟨h1,h2⟩
  go_wp2_with fail;refine pr_ 0 11 (bt 11 0) fun w1d hw1d=>?_;refine mG ?_;have hH:w1d.cell? ⟨g,40,none⟩=some (.int .i64 k)/\Hid (ApS w w1d)/\Hid (Cel w1d g 224 (chg e t2 ad k ch f ai zb)):=by rw[<-hw1d];exact⟨(HG.out.cell 40).trans (chg_k HO.out),HSr.out.drew,HG.out⟩
  clear hw1d;refine wpAny_of_last (S:=fun w'=>w'.cell? ⟨g,40,none⟩=some (.int .i64 k)/\Hid (ApS w w')/\Hid (Cel w' g 224 (chg e t2 ad k ch f ai zb))) (ds:=[10]) _ _ _ _ ?_;refine ts_ 0 4 7 (bt 11 15) hH ?_;refine mD ?_;repeat (first|(refine tk_ 45 (.tmp 62) g 0 (vw e t2 ad k ch) (fun _ h=>chg_view (h.2.2.out)) underlying45 rfl (vw_hi HO.out.vw) ?_)|(refine uA ?_)|(refine mB3 ?_))
  refine takes_nil ?_;refine ts_ 5 5 2 (bt 11 1007) hH ?_;refine mD ?_;repeat (first|(refine tk_ 45 (.tmp 62) g 0 (vw e t2 ad k ch) (fun _ h=>chg_view (h.2.2.out)) underlying45 rfl (vw_hi HO.out.vw) ?_)|(refine uA ?_)|(refine mB3 ?_))
  refine takes_nil ?_;refine one_ (i:=4) (N:=some 64) (bt 11 1023) rfl rfl kk dd (fun K hK=>?_);refine goes_ func151 kk rfl #[.agg (vw e t2 ad k ch).toArray] rr rfl rfl mL ?_;refine(admins_t e k t2 ch ad _ HO.out.vw (HPO.out.1.adm HAD.out.px HM0.out.mem)).mono ?_;rintro _ wq ⟨rfl,hbq⟩;refine⟨_,rfl,?_⟩;refine hK.out _ _ ⟨(hbq.cell hH.2.2.out.lt).trans hH.1,hH.2.1.out.bel hbq,hH.2.2.out.below hbq hH.2.2.out.lt⟩ (fun hH=>?_);clear hK K hbq;refine mN ?_;refine tl_ 10 ?_;refine mF ?_;have HSq:=hH.2.1;have HGq:=hH.2.2;clear hH;have HKN:=hd_ HM0.out.kn;by_cases hlk:(admN ad 8:Int)<k
  · exact absurd hlk (by have:=HKN.out;omega)
  go_wp2_with fail;refine pr_ 0 16 (bt 16 0) fun w1d hw1d=>?_;refine mG ?_;have hH:Hid (Cel w1d g 224 (chg e t2 ad k ch f ai zb)/\Ap16 w w1d):=by rw[<-hw1d];exact⟨HGq.out,HSq.out.ap16⟩
  clear hw1d;refine wpAny_of_last (S:=fun w'=>Hid (Cel w' g 224 (chg e t2 ad k ch f ai zb)/\Ap16 w w')) (ds:=[15]) _ _ _ _ ?_;refine ts_ 0 12 4 (bt 16 4095) hH ?_;refine mD ?_;repeat (first|(refine tk_ 45 (.tmp 76) g 0 (vw e t2 ad k ch) (fun _ h=>chg_view (h.out.1)) underlying45 rfl (vw_hi HO.out.vw) ?_)|(refine tk_ 41 (.tmp 80) g 74 (bools ai) (fun _ h=>chg_airange h.out.1 HO.out) underlying41 rfl (hi41 HO.out.ai) ?_)|(refine tk_ 41 (.tmp 84) g 82 (bools zb) (fun _ h=>chg_gorange h.out.1 HO.out) underlying41 rfl (hi41 HO.out.go) ?_)|(refine uA ?_)|(refine mB0 ?_))
  refine takes_nil ?_;refine one_ (i:=12) (N:=none) (bt 16 8191) rfl rfl kk dd (fun K hK=>?_);obtain⟨v6,hl6,hc6⟩:=hH.out.2.c6;refine step_store_cel rfl 45 (.tmp 6) (.tmp 77) rr (w.heap.size+1) 0 45 [] v6 [] (vw e t2 ad k ch) rr rr (by simpa using hc6) rfl (by rw[hl6,vw_len HO.out.vw]) (vw_hi HO.out.vw) (all_oneCell_toArray (vw_all _ _ _ _ _)) ?_;intro wA hA hgA;have HA6:Hid (Cel wA (w.heap.size+1) 45 (vw e t2 ad k ch)):=by show Cel _ _ _ _;simpa using hA
  refine hK.out _ _ ⟨hH.out.1.grown hgA s1_,hH.out.2.gr6 hgA ⟨_,vw_len HO.out.vw,HA6.out⟩⟩ (fun hH=>?_);clear hK K hA hgA hc6 hl6;refine one_ (i:=13) (N:=none) (bt 16 16383) rfl rfl kk dd (fun K hK=>?_);obtain⟨v7,hl7,hc7⟩:=hH.out.2.c7;refine step_store_cel rfl 41 (.tmp 7) (.tmp 81) rr (w.heap.size+1+1) 0 41 [] v7 [] (bools ai) rr rr (by simpa using hc7) rfl (by rw[hl7,bools_len,HO.out.ai]) (hi41 HO.out.ai) (all_bools _) ?_;intro wB hB hgB;have HB6:Hid (Cel wB (w.heap.size+1) 45 (vw e t2 ad k ch)):=HA6.out.grown hgB (by simp;try omega);have HB7:Hid (Cel wB (w.heap.size+1+1) 41 (bools ai)):=by show Cel _ _ _ _;simpa using hB
  refine hK.out _ _ ⟨hH.out.1.grown hgB s1_,hH.out.2.gr7 hgB ⟨_,by rw[bools_len,HO.out.ai],HB7.out⟩⟩ (fun hH=>?_);clear hK K hB hgB hc7 hl7;refine one_ (i:=14) (N:=none) (bt 16 32767) rfl rfl kk dd (fun K hK=>?_);obtain⟨v8,hl8,hc8⟩:=hH.out.2.c8;refine step_store_cel rfl 41 (.tmp 8) (.tmp 85) rr (w.heap.size+1+1+1) 0 41 [] v8 [] (bools zb) rr rr (by simpa using hc8) rfl (by rw[hl8,bools_len,HO.out.go]) (hi41 HO.out.go) (all_bools _) ?_;intro wC hC hgC;have HZ:Hid (Cel wC g 224 (chg e t2 ad k ch f ai zb)/\Cel wC (w.heap.size+1) 45 (vw e t2 ad k ch)/\Cel wC (w.heap.size+1+1) 41 (bools ai)/\Cel wC (w.heap.size+1+1+1) 41 (bools zb)/\Bl w wC):=⟨hH.out.1.grown hgC s1_,HB6.out.grown hgC (by simp;try omega),HB7.out.grown hgC (by simp;try omega),by simpa using hC,hH.out.2.below.grown hgC hH.out.2.below.size (fun k hk=>by cases hk;omega)⟩;refine hK.out _ _ ⟨HZ.out.1,hH.out.2.gr8 hgC ⟨_,by rw[bools_len,HO.out.go],HZ.out.2.2.2.1⟩⟩ (fun hH=>?_);clear hK K hC hgC hc8 hl8;refine tl_ 15 ?_;refine mF ?_;have hSz:=HZ;go_wp2_with fail;have h6:=hSz.out.2.1.vload HO.out.vw;have h7:=hSz.out.2.2.1.bload HO.out.ai;have h8:=hSz.out.2.2.2.1.bload HO.out.go;refine bodyPost_ret (v:=.tuple #[.agg (vw e t2 ad k ch).toArray,.agg (bools ai).toArray,.agg (bools zb).toArray,.int .i64 0]) (by simp[results,results94,asAddr,Act.put,h6,h7,h8]) rfl ⟨⟨t2,HPO.out.1,by rw[HPO.out.2]⟩,hSz.out.2.2.2.2⟩
end Go.Proofs.YtppjnahcnofokaaGreat.T
namespace Go.Proofs.YtppjnahcnofokaaGreat.T
open Go.RowKit Go.Proofs.YtppjnahcnofokaaGreatW.PrintLast
open Go.Proofs.Tryz
variable{k:IntKind}{a:Act}{b i n B base m fuel D B':Nat}{l ch p t0 q:List Int}{w w' w1 w2:World}{t:TypeId}{P:Int->Int->Prop}{cs:Array Value}{A A':Option Addr}{o oi:Oper}{e s f st fl:Int}{xs:List (List Int×Int×Int×Int)}{ops:Array Oper}{rest l0:List Oper}{v:Value}{r:Option Nat}{rs rs2:List (Option Addr×Nat×Nat×List Int)}{E:Prop}{vs l3:List Value}{ad ai go:List Bool}{N:Act->Prop}{place:Nat->Option (Nat×Nat)}{bad:Bool}{es es':List (Int×List Int)}{T:List TypeId}{ps:List (List Int)}
def chaF(r y:Int)(l:List Int):Int:=numbF (derF zl lSign (fourF r++(fourF y++l)))
theorem pow_mod_q(q:Nat)(hq:4 ^ q % 2147483579=1)(a:Nat):4 ^ a % 2147483579=4 ^ (a % q) % 2147483579:=by
 have e:a=q*(a / q)+a % q:=(Nat.div_add_mod a q).symm;conv=>lhs;rw[e]
 rw[Nat.pow_add,Nat.mul_mod,pow_one_mod 4 q hq,Nat.one_mul,Nat.mod_mod]
theorem exp_eq(q r E s:Nat)(hr:r<q)(hE:E<=q):((r+E*s) % q+s*(q-E)) % q=r:=by
 have e:(r+E*s) % q+s*(q-E)+q*((r+E*s) / q)=r+s*q:=by
  have h1:(r+E*s) % q+q*((r+E*s) / q)=r+E*s:=Nat.mod_add_div _ _;have h2:s*(q-E)+E*s=s*q:=by rw[Nat.mul_comm E s,<- Nat.mul_add,Nat.sub_add_cancel hE]
  omega
 have h3:((r+E*s) % q+s*(q-E)+q*((r+E*s) / q)) % q=((r+E*s) % q+s*(q-E)) % q:=Nat.add_mul_mod_self_left _ _ _;rw[<-h3,e,Nat.add_mul_mod_self_right,Nat.mod_eq_of_lt hr]
theorem sig_math(r E s:Int)(hr:1<=r/\r<=1073741788)(hE:0<=E/\E<1073741789)(hs:1<=s/\s<=1073741788): powF 4 ((r+E*s) % 1073741789)*powF (powF 4 s) (1073741789-E) % 2147483579=powF 4 r:=by
 obtain⟨q,hqq,four⟩:=four_q;obtain⟨r,rfl⟩:∃n:Nat,r=n:=⟨r.toNat,by omega⟩;obtain⟨E,rfl⟩:∃n:Nat,E=n:=⟨E.toNat,by omega⟩;obtain⟨s,rfl⟩:∃n:Nat,s=n:=⟨s.toNat,by omega⟩;have eq1:(1073741789:Int)=(q:Int):=by omega
 have e1:((r:Int)+E*s) % 1073741789=(((r+E*s) % q:Nat):Int):=by rw[eq1];simp
 have e2:(1073741789:Int)-E=((q-E:Nat):Int):=by omega
 have hS:(r+E*s) % q<q:=Nat.mod_lt _ o_;have p1:powF 4 (((r+E*s) % q:Nat):Int)=((4 ^ ((r+E*s) % q) % 2147483579:Nat):Int):=powF_nat 4 _ o_;have p2:powF 4 (s:Int)=((4 ^ s % 2147483579:Nat):Int):=powF_nat 4 s o_;have p3:powF ((4 ^ s % 2147483579:Nat):Int) ((q-E:Nat):Int)=(((4 ^ s % 2147483579) ^ (q-E) % 2147483579:Nat):Int):=powF_nat _ _ o_;have p4:powF 4 (r:Int)=((4 ^ r % 2147483579:Nat):Int):=powF_nat 4 r o_;rw[e1,e2,p1,p2,p3,p4,<- Nat.pow_mod,<- Nat.pow_mul];have h:4 ^ ((r+E*s) % q) % 2147483579*(4 ^ (s*(q-E)) % 2147483579) % 2147483579=4 ^ r % 2147483579:=by rw[<-Nat.mul_mod,<- Nat.pow_add,pow_mod_q q four,exp_eq q r E s o_ o_]
 generalize 4 ^ ((r+E*s) % q) % 2147483579=a at h ⊢;generalize 4 ^ (s*(q-E)) % 2147483579=b at h ⊢;generalize 4 ^ r % 2147483579=c at h ⊢;rw[<-h];simp
structure SigOk (y:Int) (l:List Int) (E S:Int):Prop where
 pub:pubB y=true
 er:0<=E/\E<1073741789
 sr:0<=S/\S<1073741789
 eq:E=chaF (powF 4 S*powF y (1073741789-E) % 2147483579) y l
theorem challenge_f(r y:Int)(A:Option Addr)(n c:Nat)(l:List Int)(w:World)(hr:Rd w .u8 A n c l)(hn:n<=60000):Calls prog 154 #[.int .i64 r,.int .i64 y,.slice A n c] w fun e w'=>e=.returned (.int .i64 (chaF r y l))/\Bl w w':=by
 have HR:=hd_ hr;clear hr;go_enter func154,ntmps154
 go_wp2_with fail;refine(four_f r _).mono ?_;rintro _ w2 ⟨⟨A2,c2,rfl,ho2⟩,hb2⟩;obtain⟨l2,hle2⟩:∃l,l=fourF r:=⟨_,rfl⟩;have hl2:l2.length=4:=by rw[hle2];rfl
 rw[<-hle2]at ho2;have HLE2:=hd_ hle2;clear hle2;have H2:Hid (Rd w2 .u8 A2 4 c2 l2):=rd_own ho2 hl2;have HR2:=hd_ (HR.out.below hb2);have HB2:=hd_ hb2;clear ho2 hl2 hb2;go_wp2_with fail;refine(four_f y _).mono ?_;rintro _ w3 ⟨⟨A3,c3,rfl,ho3⟩,hb3⟩;obtain⟨l3,hle3⟩:∃l,l=fourF y:=⟨_,rfl⟩;have hl3:l3.length=4:=by rw[hle3];rfl
 rw[<-hle3]at ho3;have HLE3:=hd_ hle3;clear hle3;have H3:Hid (Rd w3 .u8 A3 4 c3 l3):=rd_own ho3 hl3;have H23:=hd_ (H2.out.below hb3);have HR3:=hd_ (HR2.out.below hb3);have HB3:=tb_ HB2 hb3;clear ho3 hl3 hb3;go_wp2_with fail;change Calls prog 37 #[.agg (ints .u8 zl).toArray,_,_] _ _
 have HRR:Hid (RdR (w3.alloc (.cells #[.slice A2 4 c2,.slice A3 4 c3,.slice A n c] 31)) (some ⟨w3.heap.size,0,none⟩) 3 3 60000 [(A2,4,c2,l2),(A3,4,c3,l3),(A,n,c,l)]):=rdr_new w3 [(A2,4,c2,l2),(A3,4,c3,l3),(A,n,c,l)] _ 3 rfl rfl (fun r hr=>by
  simp at hr
  rcases hr with rfl|rfl|rfl
  · exact⟨H23.out,by show 4<=_;omega⟩
  · exact⟨H3.out,by show 4<=_;omega⟩
  · exact⟨HR3.out,hn⟩)
 obtain⟨l4,hle4⟩:∃z,z=derF zl lSign (fourF r++(fourF y++l)):=⟨_,rfl⟩;refine(derive_l zl _ _ 3 3 _ _ rfl dd HRR.out o_ l4 (by rw[hle4,<- HLE2.out,<- HLE3.out];simp[catL];rfl)).mono ?_;rintro _ w4 ⟨rfl,hb4⟩;have hl4:l4.length=32:=by rw[hle4];exact derF_len _ _ _
 have HLE4:=hd_ hle4;clear hle4;have HB4:=hd_ (HB3.out.trans (((bal (Below.refl w3.heap.size w3)).trans (hb4.mono s_)).mono HB3.out.size));clear hb4;go_wp2_with fail;refine(number_f l4 _ hl4).mono ?_;rintro _ w5 ⟨rfl,hb5⟩;have HB5:=tb_ HB4 hb5;go_wp2_with fail;go_ret;exact⟨by unfold chaF;rw[<-HLE4.out];rfl,HB5.out⟩
theorem verify_t(y E S:Int)(A:Option Addr)(n c:Nat)(l:List Int)(w:World)(hr:Rd w .u8 A n c l)(hn:n<=60000)(hsig:SigOk y l E S):Calls prog 158 #[.int .i64 y,.slice A n c,.agg #[.int .i64 E,.int .i64 S]] w fun e w'=>e=.returned (.bool true)/\Bl w w':=by
 obtain⟨W1,hW1⟩:=ex_ (w.alloc (.cells #[.int .i64 E,.int .i64 S] 116));have HB1:Hid (Bl w W1):=by rw[hW1];exact b0_
 have HR:=hd_ (hr.below HB1.out);have hk:W1.heap[w.heap.size]? = some (.cells #[.int .i64 E,.int .i64 S] 116 (0,0)):=by rw[hW1];exact heap_alloc_new _ _
 have c0:W1.cell? ⟨w.heap.size,0,none⟩=some (.int .i64 E):=by rw[key_cell hk];rfl
 have c1:W1.cell? ⟨w.heap.size,1,none⟩=some (.int .i64 S):=by rw[key_cell hk];rfl
 have HW1:=hd_ hW1;clear hr hk hW1;have hy:1<y/\y<2147483579:=by have:=hsig.pub;unfold pubB at this;simp at this;exact⟨this.1.1,this.1.2⟩
 have HQ:=hd_ hsig.pub;have hE:=hsig.er;have hS:=hsig.sr;have HEQ:=hd_ hsig.eq;clear hsig;have HE:=hd_ (show decide (0<=E/\E<1073741789)=true by simpa using hE);have HS:=hd_ (show decide (0<=S/\S<1073741789)=true by simpa using hS);obtain⟨hE0,hE1⟩:=hE;obtain⟨hS0,hS1⟩:=hS;go_enter func158,ntmps158
 go_wp2_with fail;rw[<-HW1.out];refine(pIs_any _ _).mono ?_;rintro _ w2 ⟨rfl,rfl⟩;rw[HQ.out];go_wp2_with fail;refine(sNum_any _ _).mono ?_;rintro _ w2 ⟨rfl,rfl⟩;rw[HE.out];go_wp2_with fail;refine(sNum_any _ _).mono ?_;rintro _ w2 ⟨rfl,rfl⟩;rw[HS.out];go_wp2_with fail;have hw:IntKind.i64.wrap (1073741789-E)=1073741789-E:=IntWalk.i64_in _ o_;refine still_tail 9 mixed kk (fun W4 hW4=>?_);refine mD ?_;have hd:∀a,W1.cell? a=W4.cell? a:=fun a=>by rw[<-hW4];rfl
 have HR4:Hid (Rd W4 .u8 A n c l):=by rw[<-hW4];exact HR.out.drew
 have HB4:Hid (Bl w W4):=by rw[<-hW4];exact HB1.out.drew
 rw[hd]at c0 c1;clear hd hW4;repeat still_step
 refine wpStill_step (fun K hK=>?_);go_simp;refine⟨_,(pow_any _ _ _ o_ o_).mono fun _ _ h=>⟨h.1,h.2.symm⟩,hK _ ?_⟩;clear hK K;repeat still_step
 refine wpStill_step (fun K hK=>?_);go_simp;refine⟨_,(pow_any _ _ _ o_ o_).mono fun _ _ h=>⟨h.1,h.2.symm⟩,hK _ ?_⟩;clear hK K;repeat still_step
 refine wpStill_step (fun K hK=>?_);go_simp;refine⟨_,(mul_any _ _ _ (powF_rng _ _) (powF_rng _ _)).mono fun _ _ h=>⟨h.1,h.2.symm⟩,hK _ ?_⟩;clear hK K;repeat still_step
 refine wpStill_nil ?_;go_wp2_with fail;clear hw;have hlt4:w.heap.size<W4.heap.size:=World.block_lt_of_cell? _ _ c0;obtain⟨M,hM⟩:=ex_ (powF 4 S*powF y (1073741789-E) % 2147483579);have HEM:Hid (E=chaF M y l):=by show E=_;rw[hM];exact HEQ.out
 rw[<-hM];clear hM HEQ;refine start_ (n:=8) (S:=fun w'=>w'.cell? ⟨w.heap.size,0,none⟩=some (.int .i64 E)) (ds:=[]) (bt 8 0) kk rfl rfl c0 (fun hH=>?_);rotate_left;refine pure_ (i:=0) (N:=some 32) (v:=?_) (a':=?_) (bt 8 1) rfl rfl kk (fun _ _ _ h=>h) (Or.inl ⟨by rfl,?_⟩) ?_ ?_;rotate_left
 · intro w';go_simp;with_reducible rfl
 rotate_left
 · simp only[Act.put,List.setIfInBounds_toArray,List.set_cons_zero,List.set_cons_succ];rfl
 refine take_ (i:=1) (N:=some 33) (v:=?_) (a':=?_) (bt 8 3) rfl rfl kk (fun _ _ _ h=>h) (Or.inl ⟨by rfl,?_⟩) hH ?_ ?_;rotate_left
 · intro w' s0;go_simp;with_reducible rfl
 rotate_left
 · simp only[Act.put,List.setIfInBounds_toArray,List.set_cons_zero,List.set_cons_succ];rfl
 refine pure_ (i:=2) (N:=some 34) (v:=?_) (a':=?_) (bt 8 7) rfl rfl kk (fun _ _ _ h=>h) (Or.inl ⟨by rfl,?_⟩) ?_ ?_;rotate_left
 · intro w';go_simp;with_reducible rfl
 rotate_left
 · simp only[Act.put,List.setIfInBounds_toArray,List.set_cons_zero,List.set_cons_succ];rfl
 refine pure_ (i:=3) (N:=some 35) (v:=?_) (a':=?_) (bt 8 15) rfl rfl kk (fun _ _ _ h=>h) (Or.inl ⟨by rfl,?_⟩) ?_ ?_;rotate_left
 · intro w';go_simp;with_reducible rfl
 rotate_left
 · simp only[Act.put,List.setIfInBounds_toArray,List.set_cons_zero,List.set_cons_succ];rfl
 refine pure_ (i:=4) (N:=some 36) (v:=?_) (a':=?_) (bt 8 31) rfl rfl kk (fun _ _ _ h=>h) (Or.inl ⟨by rfl,?_⟩) ?_ ?_;rotate_left
 · intro w';go_simp;with_reducible rfl
 rotate_left
 · simp only[Act.put,List.setIfInBounds_toArray,List.set_cons_zero,List.set_cons_succ];rfl
 refine one_ (i:=5) (N:=some 37) (bt 8 63) rfl rfl kk dd (fun K hK=>?_);refine goes_ func154 kk rfl #[.int .i64 M,.int .i64 y,.slice A n c] rr rfl rfl mL ?_;refine(challenge_f M y A n c l _ HR4.out.drew hn).mono ?_;rintro _ w6 ⟨rfl,hb6⟩;rw[<-HEM.out];refine⟨_,rfl,?_⟩;refine hK.out _ _ ((hb6.cell hlt4).trans hH) (fun hH=>?_);clear hK K;refine mN ?_;refine pure_ (i:=6) (N:=some 38) (v:=?_) (a':=?_) (bt 8 127) rfl rfl kk (fun _ _ _ h=>h) (Or.inl ⟨by rfl,?_⟩) ?_ ?_;rotate_left
 · intro w';go_simp;with_reducible rfl
 rotate_left
 · simp only[Act.put,List.setIfInBounds_toArray,List.set_cons_zero,List.set_cons_succ];rfl
 refine pure_ (i:=7) (N:=some 6) (v:=?_) (a':=?_) (bt 8 255) rfl rfl kk (fun _ _ _ h=>h) (Or.inl ⟨by rfl,?_⟩) ?_ ?_;rotate_left
 · intro w';go_simp;with_reducible rfl
 rotate_left
 · simp only[Act.put,List.setIfInBounds_toArray,List.set_cons_zero,List.set_cons_succ];rfl
 refine done_ kk ?_;have HB6:=hd_ (HB4.out.trans (((Below.refl W4.heap.size W4).drew.trans hb6).mono HB4.out.size));clear hb6 c0 c1;go_wp2_with fail;go_ret;exact⟨rfl,HB6.out⟩
theorem sign_f(g:Nat)(s:Int)(A:Option Addr)(n c:Nat)(l:List Int)(w:World)(hk:KeyAt w g s)(hr:Rd w .u8 A n c l)(hn:n<=60000):Calls prog 96 #[.pointer (some ⟨g,0,none⟩),.slice A n c] w fun e w'=>(∃E S:Int,e=.returned (.agg #[.int .i64 E,.int .i64 S])/\SigOk (powF 4 s) l E S)/\KeyAt w' g s/\ChgK g w w':=by
 have hlt:=hk.lt;obtain⟨W1,hW1⟩:=ex_ (w.alloc (.cells #[.int .i64 0,.int .i64 0] 116));have hb1:=nb_ hW1;have HK1:=hd_ (hk.below hb1 hlt);have HC1:Hid (ChgK g w W1):=ChgK.of_below hb1;have HR1:=hd_ (hr.below hb1);have HZ1:Hid (W1.heap[w.heap.size]? = some (.cells #[.int .i64 0,.int .i64 0] 116 (0,0))):=by rw[hW1];exact heap_alloc_new _ _
 have hs:=hk.1;have HW1:=hd_ hW1;clear hk hr hb1 hW1;go_enter func96,ntmps96
 go_wp2_with fail;rw[<-HW1.out];refine(secret_any g s W1 HK1.out).mono ?_;rintro _ w2 ⟨rfl,rfl⟩;go_wp2_with fail;refine(four_any _ _).mono ?_;rintro _ w2 ⟨⟨A2,c2,l2,rfl,ho2,hl2⟩,hb2⟩;have H2:Hid (Rd w2 .u8 A2 4 c2 l2):=rd_own ho2 hl2;have HR2:=hd_ (HR1.out.below hb2);have HK2:=hd_ (HK1.out.below hb2 HK1.out.lt);have HC2:=hd_ (HC1.out.trans (ChgK.of_below hb2));have HZ2:=hd_ ((hb2.block w.heap.size (lt_of_block HZ1.out)).trans HZ1.out);clear ho2 hl2 hb2 HR1 HK1 HC1 HZ1;go_wp2_with fail;change Calls prog 37 #[.agg (ints .u8 zl).toArray,_,_] _ _
 have HRR:Hid (RdR (w2.alloc (.cells #[.slice A2 4 c2,.slice A n c] 31)) (some ⟨w2.heap.size,0,none⟩) 2 2 60000 [(A2,4,c2,l2),(A,n,c,l)]):=rdr_new w2 [(A2,4,c2,l2),(A,n,c,l)] _ 2 rfl rfl (fun r hr=>by
  simp at hr
  rcases hr with rfl|rfl
  · exact⟨H2.out,by show 4<=_;omega⟩
  · exact⟨HR2.out,hn⟩)
 refine(derive_any zl _ _ 2 2 _ _ rfl dd HRR.out o_).mono ?_;rintro _ w4 ⟨⟨l4,hl4,rfl⟩,hb4⟩;have hb4':Bl w2 w4:=(bal (Below.refl w2.heap.size w2)).trans (hb4.mono s_);have HR4:=hd_ (HR2.out.below hb4');have HK4:=hd_ (HK2.out.below hb4' HK2.out.lt);have HC4:=hd_ (HC2.out.trans (ChgK.of_below hb4'));have HZ4:=hd_ ((hb4'.block w.heap.size (lt_of_block HZ2.out)).trans HZ2.out);clear hb4 hb4' HR2 HK2 HC2 HZ2 HRR H2;go_wp2_with fail;refine(scalar_any l4 _ hl4).mono ?_;rintro _ w5 ⟨⟨x,hx0,hx1,rfl⟩,hb5⟩;have HR5:=hd_ (HR4.out.below hb5);have HK5:=hd_ (HK4.out.below hb5 HK4.out.lt);have HC5:=hd_ (HC4.out.trans (ChgK.of_below hb5));have HZ5:=hd_ ((hb5.block w.heap.size (lt_of_block HZ4.out)).trans HZ4.out);clear hb5 HR4 HK4 HC4 HZ4;go_wp2_with fail;refine(pow_any 4 x _ o_ ⟨by omega,by omega⟩).mono ?_;rintro _ w6 ⟨rfl,rfl⟩;go_wp2_with fail;refine(public_any g s _ HK5.out).mono ?_;rintro _ w6 ⟨rfl,hk6,hc6⟩;have HR6:=hd_ (HR5.out.chgk HK5.out hc6);have HK6:=hd_ hk6;have HC6:=hd_ (HC5.out.trans hc6);have HZ6:=hd_ ((hc6.block w.heap.size (lt_of_block HZ5.out) o_).trans HZ5.out);clear hk6 hc6 HR5 HK5 HC5 HZ5;go_wp2_with fail;refine(challenge_f (powF 4 x) (powF 4 s) A n c l _ HR6.out hn).mono ?_;rintro _ w7 ⟨rfl,hb7⟩;have hyr:=numbF_rng (derF zl lSign (fourF (powF 4 x)++(fourF (powF 4 s)++l)));obtain⟨y,hy⟩:=ex_ (chaF (powF 4 x) (powF 4 s) l);have hy0:0<=y/\y<1073741789:=by rw[hy];exact hyr
 rw[<-hy];have hmul:y*s<=1073741789*1073741789:=Int.mul_le_mul o_ o_ o_ o_;have hmul0:0<=y*s:=Int.mul_nonneg hy0.1 o_;have hwz:(wrap64 (x+wrap64 (y*s))).tmod 1073741789=(x+y*s) % 1073741789:=by
  have e1:wrap64 (y*s)=y*s:=by unfold wrap64;omega
  have e2:wrap64 (x+y*s)=x+y*s:=by unfold wrap64;omega
  rw[e1,e2];exact Int.tmod_eq_emod_of_nonneg o_
 have HSIG:Hid (SigOk (powF 4 s) l y ((x+y*s) % 1073741789)):=by refine⟨pub_gen s hs,hy0,⟨Int.emod_nonneg _ o_,Int.emod_lt_of_pos _ o_⟩,?_⟩;rw[sig_math x y s ⟨hx0,hx1⟩ hy0 hs];exact hy
 have HWZ:=hd_ hwz;clear hyr hy hmul hmul0 hwz;have HK7:=hd_ (HK6.out.below hb7 HK6.out.lt);have HC7:=hd_ (HC6.out.trans (ChgK.of_below hb7));have hz7:=(hb7.block w.heap.size (lt_of_block HZ6.out)).trans HZ6.out;have c0:w7.cell? ⟨w.heap.size,0,none⟩=some (.int .i64 0):=by rw[key_cell hz7];rfl
 have c1:w7.cell? ⟨w.heap.size,1,none⟩=some (.int .i64 0):=by rw[key_cell hz7];rfl
 have f0:=key_free hz7 0;have f1:=key_free hz7 1;have HZ7:=hd_ hz7;clear hb7 HR6 HK6 HC6 HZ6 hz7;go_wp2_with fail;generalize hW:World.setCell _ _ _=W8;rw[HWZ.out]at hW ⊢;generalize (x+y*s) % 1073741789=z at hW HSIG ⊢;have hz8:W8.heap[w.heap.size]? = some (.cells #[.int .i64 y,.int .i64 z] 116 (0,0)):=by rw[<-hW];exact key_set (key_set HZ7.out 0 _) 1 _
 have ho8:Only w.heap.size w7 W8:=by rw[<-hW];exact((Only.refl _ _).set 0 _).set 1 _
 clear hW;have hload:=run_loadVar_mid (P:=prog) W8 w.heap.size 0 116 [.int .i64 y,.int .i64 z] _ (key_range hz8) underlying116 rfl info116;refine bodyPost_ret (v:=.agg #[.int .i64 y,.int .i64 z]) (by simp[results,results96,asAddr,Act.put,hload]) rfl ⟨⟨y,z,rfl,HSIG.out⟩,HK7.out.only ho8 o_,Only.chgk_new HC7.out ho8 (Nat.le_refl _)⟩
end Go.Proofs.YtppjnahcnofokaaGreat.T
namespace Go.Proofs.YtppjnahcnofokaaGreat.T
open Go.RowKit Go.Proofs.YtppjnahcnofokaaGreatW.PrintLast
open Go.Proofs.Tryz
variable{k:IntKind}{a:Act}{b i n B base m fuel D B':Nat}{l ch p t0 q:List Int}{w w' w1 w2:World}{t:TypeId}{P:Int->Int->Prop}{cs:Array Value}{A A':Option Addr}{o oi:Oper}{e s f st fl:Int}{xs:List (List Int×Int×Int×Int)}{ops:Array Oper}{rest l0:List Oper}{v:Value}{r:Option Nat}{rs rs2:List (Option Addr×Nat×Nat×List Int)}{E:Prop}{vs l3:List Value}{ad ai go:List Bool}{N:Act->Prop}{place:Nat->Option (Nat×Nat)}{bad:Bool}{es es':List (Int×List Int)}{T:List TypeId}{ps:List (List Int)}
theorem isAdmin_t(e k:Int)(m:Nat)(t ch:List Int)(ad:List Bool)(w:World)(h:VwOk t ad ch)(hm:m<8):Calls prog 95 #[.agg (vw e t ad k ch).toArray,.int .i64 m] w fun r w'=>r=.returned (.bool (ad.getD m false))/\Bl w w':=by
 obtain⟨w1,hW⟩:=ex_ (w.alloc (.cells (vw e t ad k ch).toArray 45));have HC:Hid (Cel w1 w.heap.size 45 (vw e t ad k ch)):=by rw[hW];exact Cel.new _ rfl rfl
 have HV:=hd_ h;have HW:=hd_ hW;clear hW h;go_enter func95,ntmps95
 have h0:(0:Int)<=m:=by omega
 have h8:(m:Int)<8:=by omega
 have c0:(w.alloc (.cells (vw e t ad k ch).toArray 45)).cell? ⟨w.heap.size,32+m,none⟩=some (.bool (ad.getD m false)):=by rw[<-HW.out,HC.out.cell];exact vw_admin HV.out m hm
 go_wp2_with fail
 all_goals
  go_ret
  exact⟨by first|rfl|simp,b0_⟩
theorem approve_t(e k f x y:Int)(m q:Nat)(t ch:List Int)(ad:List Bool)(A:Option Addr)(c:Nat)(g:Nat)(s:Int)(w:World)(h:VwOk t ad ch)(hr:OpsR w A 1 c [1,0,0,x,y])(hmv:MayV e k t ad)(hf:0<=f/\f<8/\memB t f.toNat=true)(hs:AddOk t x y q)(hk:KeyAt w g s)(hm:m<8)(had:ad.getD m false=true)(hl:t.getD (m*2) 0=powF 4 s): Calls prog 61 #[.agg (vw e t ad k ch).toArray,.int .i64 m,.pointer (some ⟨g,0,none⟩),.int .i64 f,.slice A 1 c] w fun r w'=>(∃E S,r=.returned (.tuple #[voteV m E S,.int .i64 0])/\SigOk (powF 4 s) (papF e k f t ch ad [1,0,0,x,y]) E S)/\KeyAt w' g s/\ChgK g w w':=by
 obtain⟨w1,hW⟩:=ex_ (((w.alloc (.cells (vw e t ad k ch).toArray 45)).alloc (.cells #[.int .i64 0,.int .i64 0,.int .i64 0] 118)));have HS:Hid (AvS w w1 e k t ch ad g s):=by rw[hW];exact⟨(Cel.new _ rfl rfl).alloc _,Row.new [0,0,0] _ rfl s_,(hk.below b0_ hk.lt).below b0_ (by have:=hk.lt;simp;omega),hk.lt,ChgK.of_below (bal b0_)⟩
 have HR:Hid (OpsR w1 A 1 c [1,0,0,x,y]):=by rw[hW];exact hr.below (bal b0_)
 have hsz:w.heap.size+2<=w1.heap.size:=by rw[hW];simp
 have HV:=hd_ h;have HW:=hd_ hW;have HMV:=hd_ hmv;have HF:=hd_ hf;have HAD:=hd_ hs;have HDD:=hd_ had;have HLL:=hd_ hl;clear hW h hr hk hmv hf hs had hl;go_enter func61,ntmps61
 · go_wp2_with (change wpList _ _ _ _ _ ((w.alloc (.cells (vw e t ad k ch).toArray 45)).alloc (.cells #[.int .i64 0,.int .i64 0,.int .i64 0] 118));rw[<-HW.out];refine wpList_load_mid rfl 45 (.tmp 5) rr w.heap.size 0 rr (vw e t ad k ch) _ HS.out.view.all underlying45 rfl (vw_hi HV.out) ?_);refine(apply_t e k f t ch ad A c x y q w1 HV.out HR.out HMV.out HF.out HAD.out).mono ?_;rintro _ w5 ⟨⟨t2,hpo,rfl⟩,hb5⟩;have HS5:=hd_ (HS.out.bel hb5);have HR5:=hd_ (HR.out.below hb5);have hsz5:w.heap.size+2<=w5.heap.size:=Nat.le_trans hsz hb5.size;have HV2:Hid (VwOk t2 ad ch):=⟨hpo.len,HV.out.admins,HV.out.chain⟩;clear hb5 hpo;(have hai:(zb.set q true).length=8:=by rw[List.length_set];rfl);have hgo:zb.length=8:=rfl
   · go_wp2_with (first|(refine wpList_load_mid rfl 45 (.tmp 5) rr w.heap.size 0 rr (vw e t ad k ch) _ HS6.out.view.all underlying45 rfl (vw_hi HV.out) ?_)|(change wpList _ _ _ _ _ (((w5.alloc (.cells zvw.toArray 45)).alloc (.cells (bools zb).toArray 41)).alloc (.cells (bools zb).toArray 41));refine stores3 rfl rfl rfl rfl rfl rfl (.tmp 12) (.tmp 26) (.tmp 13) (.tmp 27) (.tmp 14) (.tmp 28) rr rr rr rr rr rr rr rr rr HV2.out hai hgo ?_;intro w6 hA6 hB6 hC6 hb6;have HS6:=hd_ (HS5.out.bel hb6);have HR6:=hd_ (HR5.out.below hb6);clear hA6 hB6 hC6));refine(isAdmin_t e k m t ch ad _ HV.out hm).mono ?_;rintro _ w7 ⟨rfl,hb7⟩;rw[HDD.out];have HS7:=hd_ (HS6.out.bel hb7);have HR7:=hd_ (HR6.out.below hb7);have hsz7:w.heap.size+2<=w7.heap.size:=Nat.le_trans hsz5 (Nat.le_trans hb6.size hb7.size);clear hb7 hb6
     · (have hm0:(0:Int)<=m:=by omega);(have hm8:(m:Int)<8:=by omega);obtain⟨L,hL⟩:∃L,t.getD (m*2) 0=L:=⟨_,rfl⟩;have HL:=hd_ hL;clear hL;go_wp2_with fail;refine pr_ 0 10 (bt 10 0) fun w1d hw1d=>?_;refine mG ?_;(have hH:w1d.cell? ⟨w.heap.size,1+m*2,none⟩=some (.int .i64 L)/\Hid (AvS w w1d e k t ch ad g s):=by rw[<-hw1d];exact⟨(HS7.out.view.cell _).trans ((vw_tree HV.out _ o_).trans (by rw[HL.out])),HS7.out.drew⟩);(have HR8:Hid (OpsR w1d A 1 c [1,0,0,x,y]):=by rw[<-hw1d];exact HR7.out.below (Below.refl _ _).drew);(have hsz8:w.heap.size+2<=w1d.heap.size:=by rw[<-hw1d];exact hsz7);clear hw1d;refine wpAny_of_last (S:=fun w'=>w'.cell? ⟨w.heap.size,1+m*2,none⟩=some (.int .i64 L)/\Hid (AvS w w' e k t ch ad g s)/\Hid (OpsR w' A 1 c [1,0,0,x,y])/\w.heap.size+2<=w'.heap.size) (ds:=[8,9]) _ _ _ _ ?_;have hH:=And.intro hH.1 (And.intro hH.2 (And.intro HR8 hsz8));refine ts_ 0 1 9 (bt 10 1) hH ?_;refine mT4 ?_;refine ts_ 2 6 3 (bt 10 253) hH ?_;refine mT4 ?_;refine one_ (i:=1) (N:=some 42) (bt 10 255) rfl rfl kk dd (fun K hK=>?_);refine goes_ func50 kk rfl #[.pointer (some ⟨g,0,none⟩)] rr rfl rfl mL ?_;refine(public_any g s _ hH.2.1.out.key).mono ?_;rintro _ w9 ⟨rfl,hk9,hc9⟩;refine⟨_,rfl,?_⟩;refine hK.out _ _ ⟨((hH.2.1.out.kc hk9 hc9).view.cell _).trans ((vw_tree HV.out _ o_).trans (by rw[HL.out])),hH.2.1.out.kc hk9 hc9,OpsR.key hH.2.2.1.out hH.2.1.out.key hc9.gr,Nat.le_trans hH.2.2.2 hc9.size⟩ (fun hH=>?_);clear hK K hk9 hc9;refine mN ?_;refine tl_ 8 ?_;refine mF ?_
       · have hpl:powF 4 s=L:=HLL.out.symm.trans HL.out;subst hpl;have HS9:=hH.2.1;have HR9:=hH.2.2.1;have hsz9:=hH.2.2.2;go_wp2_with (refine wpList_load_mid rfl 45 (.tmp 5) rr w.heap.size 0 rr (vw e t ad k ch) _ hH.2.1.out.view.all underlying45 rfl (vw_hi HV.out) ?_);obtain⟨lh,hlq⟩:=ex_ (papF e k f t ch ad [1,0,0,x,y]);(have hlh:lh.length=32:=by rw[hlq];exact papF_len _ _ _ _ _ _ _);have HLQ:=hd_ hlq;refine(paper_f e k f t ch ad A 1 c [1,0,0,x,y] _ HV.out HR9.out dd).mono ?_;rintro _ wa ⟨rfl,hba⟩;rw[<-hlq];clear hlq;have HSa:=hd_ (HS9.out.bel hba);have hsza:w.heap.size+2<=wa.heap.size:=Nat.le_trans hsz9 hba.size;have HSb:=hd_ (HSa.out.bel (bal (o:=.cells (ints .u8 zl).toArray 43) (Below.refl _ _)));have HZ:Hid (Row (wa.alloc (.cells (ints .u8 zl).toArray 43)) wa.heap.size .u8 43 32):=Row.new zl _ rfl rfl;have HLh:=hd_ hlh;clear hba hlh
         go_wp2_with (refine store_blk rfl 43 (.tmp 16) (.tmp 54) rr wa.heap.size .u8 lh rr rr HZ.out HLh.out (by show _=_;rw[HLh.out];exact info43) ?_
                      intro w10 hB10 hg10
                      have HSc:Hid (AvS w w10 e k (t) ch ad g s):=HSb.out.gr hg10 hsza
                      have HH:=hd_ hB10
                      clear hB10 hg10)
         refine(sign_f g s _ 32 32 lh w10 HSc.out.key (rd_blk HH.out HLh.out) dd).mono ?_;rintro _ w11 ⟨⟨E,S,rfl,hsig⟩,hk11,hc11⟩;have HSG:=hd_ hsig;clear hsig;have HSd:=hd_ (HSc.out.kc hk11 hc11);clear hk11 hc11;go_wp2_with (refine store_blk rfl 118 (.tmp 10) (.tmp 59) rr (w.heap.size+1) .i64 [m,E,S] rr rr HSd.out.res rfl info118 ?_;intro w12 hB12 hg12);have hload:=hB12.loads underlying118 rfl info118;refine bodyPost_ret (v:=.tuple #[voteV m E S,.int .i64 0]) (by simp[results,results61,asAddr,Act.put,hload,voteV,ints]) rfl ⟨⟨E,S,rfl,by rw[<-HLQ.out];exact HSG.out⟩,apvEnd HSd.out hg12⟩
end Go.Proofs.YtppjnahcnofokaaGreat.T
namespace Go.Proofs.YtppjnahcnofokaaGreat.T
open Go.RowKit Go.Proofs.YtppjnahcnofokaaGreatW.PrintLast
open Go.Proofs.Tryz
variable{k:IntKind}{a:Act}{b i n B base m fuel D B':Nat}{l ch p t0 q:List Int}{w w' w1 w2:World}{t:TypeId}{P:Int->Int->Prop}{cs:Array Value}{A A':Option Addr}{o oi:Oper}{e s f st fl:Int}{xs:List (List Int×Int×Int×Int)}{ops:Array Oper}{rest l0:List Oper}{v:Value}{r:Option Nat}{rs rs2:List (Option Addr×Nat×Nat×List Int)}{E:Prop}{vs l3:List Value}{ad ai go:List Bool}{N:Act->Prop}{place:Nat->Option (Nat×Nat)}{bad:Bool}{es es':List (Int×List Int)}{T:List TypeId}{ps:List (List Int)}
theorem VoteR.at3{c:Nat}(h:VoteR w A n c l)(i:Nat)(hi:i<n):∃b o x0 x1 x2,A=some ⟨b,o,none⟩/\b<w.heap.size/\w.cell? ⟨b,o+i*3,none⟩=some (.int .i64 x0)/\w.cell? ⟨b,o+i*3+1,none⟩=some (.int .i64 x1)/\w.cell? ⟨b,o+i*3+2,none⟩=some (.int .i64 x2)/\x0=l.getD (i*3) 0/\x1=l.getD (i*3+1) 0/\x2=l.getD (i*3+2) 0:=by
 have hcap:=h.cap;have hlen:=h.len;rw[ints_len]at hlen;obtain⟨b,o,e,hlt,hr⟩:=h.at_ o_;have hc:∀j,j<3->w.cell? ⟨b,o+(i*3+j),none⟩=some (.int .i64 (l.getD (i*3+j) 0)):=fun j hj=>
  hr (i*3+j) _ (ints_get (by rw[List.getD_eq_getElem?_getD,List.getElem?_eq_getElem o_];rfl))
 exact⟨b,o,_,_,_,e,hlt,hc 0 o_,hc 1 o_,hc 2 o_,rfl,rfl,rfl⟩
theorem check_t(e k f x y E S:Int)(m q:Nat)(t ch:List Int)(ad:List Bool)(A:Option Addr)(c:Nat)(AV:Option Addr)(nV cV:Nat)(lV:List Int)(w:World)(h:VwOk t ad ch)(hr:OpsR w A 1 c [1,0,0,x,y])(hmv:MayV e k t ad)(hf:0<=f/\f<8/\memB t f.toNat=true)(hs:AddOk t x y q)(hv:VoteR w AV nV cV lV)(hnV:nV<=1)(hm:m<8)(had:ad.getD m false=true)(hvo:nV=1->lV=[(m:Int),E,S]/\SigOk (t.getD (m*2) 0) (papF e k f t ch ad [1,0,0,x,y]) E S): Calls prog 100 #[.agg (vw e t ad k ch).toArray,.int .i64 f,.slice A 1 c,.slice AV nV cV] w fun r w'=>r=.returned (.int .i64 (if (nV:Int)<k then 8 else 0))/\Bl w w':=by
 obtain⟨w1,hW⟩:=ex_ (w.alloc (.cells (vw e t ad k ch).toArray 45));have hb1:=nb_ hW;have HC1:Hid (Cel w1 w.heap.size 45 (vw e t ad k ch)):=by rw[hW];exact Cel.new _ rfl rfl
 have HR1:=hd_ (hr.below hb1);have HQ1:=hd_ (hv.below hb1);have HB1:=hd_ hb1;have HV:=hd_ h;have HW:=hd_ hW;have H11:Hid (Bl w1 w1):=Below.refl _ _;have HR0:Hid (Bl w (w.alloc (.cells (vw e t ad k ch).toArray 45))):=b0_;have HMV:=hd_ hmv;have HF:=hd_ hf;have HAD:=hd_ hs;have HDD:=hd_ had;have HVO:=hd_ hvo;clear hW hb1 hr hv h hmv hf hs had hvo;go_enter func100,ntmps100
 · go_wp2_with ((change wpList _ _ _ _ _ (w.alloc (.cells (vw e t ad k ch).toArray 45)));rw[<-HW.out];refine wpList_load_mid rfl 45 (.tmp 4) rr w.heap.size 0 rr (vw e t ad k ch) _ HC1.out.all underlying45 rfl (vw_hi HV.out) ?_);refine(apply_t e k f t ch ad A c x y q w1 HV.out HR1.out HMV.out HF.out HAD.out).mono ?_;rintro _ w5 ⟨⟨t2,hpo,rfl⟩,hb5⟩;have HF5:Hid (Bl w1 w5):=hb5;have HC5:=hd_ (HC1.out.below hb5 HC1.out.lt);have HR5:=hd_ (HR1.out.below hb5);have HQ5:=hd_ (HQ1.out.below hb5);have HV2:Hid (VwOk t2 ad ch):=⟨hpo.len,HV.out.admins,HV.out.chain⟩;clear hb5 hpo;(have hai:(zb.set q true).length=8:=by rw[List.length_set];rfl);have hgo:zb.length=8:=rfl
   · go_wp2_with (first|(refine wpList_load_mid rfl 45 (.tmp 4) rr w.heap.size 0 rr (vw e t ad k ch) _ HC6.out.all underlying45 rfl (vw_hi HV.out) ?_)|(change wpList _ _ _ _ _ (((w5.alloc (.cells zvw.toArray 45)).alloc (.cells (bools zb).toArray 41)).alloc (.cells (bools zb).toArray 41));refine stores3 rfl rfl rfl rfl rfl rfl (.tmp 9) (.tmp 33) (.tmp 10) (.tmp 34) (.tmp 11) (.tmp 35) rr rr rr rr rr rr rr rr rr HV2.out hai hgo ?_;intro w6 hA6 hB6 hC6 hb6;have HF6:=tb_ HF5 hb6;have HC6:=hd_ (HC5.out.below hb6 HC5.out.lt);have HR6:=hd_ (HR5.out.below hb6);have HQ6:=hd_ (HQ5.out.below hb6);clear hA6 hB6 hC6 hb6));obtain⟨lh,hlq⟩:=ex_ (papF e k f t ch ad [1,0,0,x,y]);(have hlh:lh.length=32:=by rw[hlq];exact papF_len _ _ _ _ _ _ _);have HLQ:=hd_ hlq;refine(paper_f e k f t ch ad A 1 c [1,0,0,x,y] _ HV.out HR6.out dd).mono ?_;rintro _ wa ⟨rfl,hba⟩;rw[<-hlq];clear hlq;have HFa:=tb_ HF6 hba;have HCa:=hd_ (HC6.out.below hba HC6.out.lt);have HQa:=hd_ (HQ6.out.below hba);have HZ:Hid (Row (wa.alloc (.cells (ints .u8 zl).toArray 43)) wa.heap.size .u8 43 32):=Row.new zl _ rfl rfl;have HLh:=hd_ hlh;have hszA:w1.heap.size<=wa.heap.size:=HFa.out.size;clear hba hlh
     go_wp2_with (refine store_blk rfl 43 (.tmp 13) (.tmp 43) rr wa.heap.size .u8 lh rr rr HZ.out HLh.out (by show _=_;rw[HLh.out];exact info43) ?_
                  intro wb hBb hgb
                  have HFb:Hid (Bl w1 wb):=(bal HFa.out).grown hgb (bal HFa.out).size (fun k hk=>by cases hk;exact hszA)
                  have hba:Bl wa wb:=(b0_:Bl wa (wa.alloc (.cells (ints .u8 zl).toArray 43))).grown hgb s_ (fun k hk=>by cases hk;omega)
                  have HCb:=hd_ (HCa.out.below hba HCa.out.lt)
                  have HQb:=hd_ (HQa.out.below hba)
                  have HHb:Hid (Blk wb wa.heap.size .u8 43 lh):=hBb
                  clear hBb hgb hba)
     (go_loopw [14,46] (fun vl v wr=>∃(i:Nat) (y:Int),v=.int .i64 i/\vl=.int .i64 y/\i<=nV/\Hid (i=0->y = -1)/\Hid (Bl w1 wr)/\Hid (Cel wr w.heap.size 45 (vw e t ad k ch))/\Hid (VoteR wr AV nV cV lV)/\Hid (Blk wr wa.heap.size .u8 43 lh)) (fun _ v _=>nV-(intOf v).toNat));(case atStart=>exact⟨0,-1,rfl,rfl,Nat.zero_le _,fun _=>rfl,HFb,HCb,HQb,HHb⟩);case round=>
      clear HFb HCb HQb HHb HZ;obtain⟨wc,rfl⟩:=ex_ (wr);obtain⟨i,y,rfl,rfl,hi,HY,HF,HC,HQ,HH⟩:=hrel;by_cases hlt:i<nV;(· (have hi0:i=0:=by omega);have hy:=HY.out hi0;have hvo:=HVO.out o_;obtain⟨b,o,x0,x1,x2,rfl,hbl,k0,k1,k2,e0,e1,e2⟩:=HQ.out.at3 i hlt;rw[hvo.1,hi0]at e0 e1 e2;have HE0:Hid (x0=(m:Int)):=e0;have HE1:Hid (x1=E):=e1;have HE2:Hid (x2=S):=e2;have HSG:=hd_ hvo.2;have HYY:=hd_ hy;clear e0 e1 e2 hvo hi0 hy;have hcap:=HQ.out.cap;obtain⟨W4,hW4⟩:=ex_ (wc.alloc (.cells #[.int .i64 x0,.int .i64 x1,.int .i64 x2] 118));have hb4:=nb_ hW4;have HF4:=tb_ HF hb4;have HC4:=hd_ (HC.out.below hb4 HC.out.lt);have HQ4:=hd_ (HQ.out.below hb4);have HH4:=hd_ (HH.out.below hb4 HH.out.lt);(have HX4:Hid (Blk W4 wc.heap.size .i64 118 [x0,x1,x2]):=by rw[hW4];exact blk_new wc .i64 118 [x0,x1,x2] _ rfl);have HW4:=hd_ hW4;(have d0:(wc.alloc (.cells #[.int .i64 x0,.int .i64 x1,.int .i64 x2] 118)).cell? ⟨wc.heap.size,0,none⟩=some (.int .i64 x0):=by simp);clear hW4 hb4;go_wp2_with ((change wpList _ _ _ _ _ (wc.alloc (.cells #[.int .i64 x0,.int .i64 x1,.int .i64 x2] 118)));rw[<-HW4.out];refine wpList_load_mid rfl 45 (.tmp 4) rr w.heap.size 0 rr (vw e t ad k ch) _ HC4.out.all underlying45 rfl (vw_hi HV.out) ?_;have d0:W4.cell? ⟨wc.heap.size,0,none⟩=some (.int .i64 x0):=HX4.out.cell rfl);rw[HE0.out];refine(isAdmin_t e k m t ch ad _ HV.out hm).mono ?_;rintro _ w7 ⟨rfl,hb7⟩;rw[HDD.out];have HF7:=tb_ HF4 hb7;have HC7:=hd_ (HC4.out.below hb7 HC4.out.lt);have HQ7:=hd_ (HQ4.out.below hb7);have HH7:=hd_ (HH4.out.below hb7 HH4.out.lt);have HX7:=hd_ (HX4.out.below hb7 HX4.out.lt);have d0:w7.cell? ⟨wc.heap.size,0,none⟩=some (.int .i64 x0):=HX7.out.cell rfl;clear hb7 k0 k1 k2;by_cases hle:x0<=y;(· exact absurd hle (by rw[HE0.out,HYY.out];omega));(have hm0:(0:Int)<=m:=by omega);(have hm8:(m:Int)<8:=by omega);have hx0:=HE0.out;subst hx0;clear HE0;obtain⟨L,hL⟩:∃L,t.getD (m*2) 0=L:=⟨_,rfl⟩;have HL:=hd_ hL;clear hL;go_wp2_with fail;refine pr_ 0 13 (bt 13 0) fun w1d hw1d=>?_;refine mG ?_;(have hH:(fun w'=>w'.cell? ⟨w.heap.size,1+m*2,none⟩=some (.int .i64 L)/\w'.cell? ⟨wc.heap.size,0,none⟩=some (.int .i64 m)/\w'.cell? ⟨wc.heap.size,1,none⟩=some (.int .i64 x1)/\w'.cell? ⟨wc.heap.size,2,none⟩=some (.int .i64 x2)/\Hid (Bl w1 w')/\Hid (Cel w' w.heap.size 45 (vw e t ad k ch))/\Hid (VoteR w' (some ⟨b,o,none⟩) nV cV lV)/\Hid (Blk w' wa.heap.size .u8 43 lh)/\Hid (Blk w' wc.heap.size .i64 118 [(m:Int),x1,x2])) w1d:=by rw[<-hw1d];exact⟨(HC7.out.cell _).trans ((vw_tree HV.out _ o_).trans (by rw[HL.out])),HX7.out.cell rfl,HX7.out.cell rfl,HX7.out.cell rfl,HF7.out.drew,HC7.out.drew,HQ7.out.below (Below.refl _ _).drew,HH7.out.drew,HX7.out.drew⟩);clear hw1d;refine wpAny_of_last (S:=fun w'=>w'.cell? ⟨w.heap.size,1+m*2,none⟩=some (.int .i64 L)/\w'.cell? ⟨wc.heap.size,0,none⟩=some (.int .i64 m)/\w'.cell? ⟨wc.heap.size,1,none⟩=some (.int .i64 x1)/\w'.cell? ⟨wc.heap.size,2,none⟩=some (.int .i64 x2)/\Hid (Bl w1 w')/\Hid (Cel w' w.heap.size 45 (vw e t ad k ch))/\Hid (VoteR w' (some ⟨b,o,none⟩) nV cV lV)/\Hid (Blk w' wa.heap.size .u8 43 lh)/\Hid (Blk w' wc.heap.size .i64 118 [(m:Int),x1,x2])) (ds:=[11,12]) _ _ _ _ ?_;refine ts_ 0 10 3 (bt 13 1023) hH ?_;refine mD ?_;(repeat (first|(refine uA ?_)|(refine takes_cons (v:=?_) (a':=?_) (Or.inl ⟨by rfl,?_⟩) ?_ ?_;rotate_left;(· rintro w' ⟨s0,s1,s2,s3,s4,s5,s6,s7,s8⟩;go_simp;with_reducible rfl);rotate_left;(· exact uP))));refine takes_nil ?_;refine one_ (i:=10) (N:=some 73) (bt 13 2047) rfl rfl kk dd (fun K hK=>?_);refine goes_ func158 kk rfl #[.int .i64 L,.slice (some ⟨wa.heap.size,0,none⟩) 32 32,.agg #[.int .i64 x1,.int .i64 x2]] rr rfl rfl mL ?_;obtain⟨-,-,-,-,HFh,HCh,HQh,HHh,HXh⟩:=hH;refine(verify_t L x1 x2 _ 32 32 lh _ (rd_blk HHh.out HLh.out) dd (by rw[<-HL.out,HLQ.out,HE1.out,HE2.out];exact HSG.out)).mono ?_;rintro _ wx ⟨rfl,hbx⟩;refine⟨_,rfl,?_⟩;have HFx:=tb_ HFh hbx;have HCx:=hd_ (HCh.out.below hbx HCh.out.lt);have HXx:=hd_ (HXh.out.below hbx HXh.out.lt);refine hK.out _ _ ⟨(HCx.out.cell _).trans ((vw_tree HV.out _ o_).trans (by rw[HL.out])),HXx.out.cell rfl,HXx.out.cell rfl,HXx.out.cell rfl,HFx,HCx,HQh.out.below hbx,HHh.out.below hbx HHh.out.lt,HXx⟩ (fun hH=>?_);clear hK K hbx HFh HCh HQh HHh HXh HFx HCx HXx;refine mN ?_;refine tl_ 11 ?_;refine mF ?_;obtain⟨-,d0,-,-,HFh,HCh,HQh,HHh,HXh⟩:=hH;go_wp2_with fail;go_roundw;(case rel=>exact⟨i+1,m,by go_num,rfl,by omega,fun h=>absurd h o_,HFh,HCh,HQh,HHh⟩);case measure=>simp[intOf];omega);have c40:wc.cell? ⟨w.heap.size,40,none⟩=some (.int .i64 k):=(HC.out.cell _).trans (vw_k HV.out);by_cases hk:(nV:Int)<k;(· go_wp2_with fail;go_ret;exact⟨rfl,HB1.out.trans (HF.out.mono HB1.out.size)⟩);go_wp2_with fail;go_ret;exact⟨rfl,HB1.out.trans (HF.out.mono HB1.out.size)⟩
end Go.Proofs.YtppjnahcnofokaaGreat.T
namespace Go.Proofs.YtppjnahcnofokaaGreat.T
open Go.RowKit Go.Proofs.YtppjnahcnofokaaGreatW.PrintLast
open Go.Proofs.Tryz
variable{k:IntKind}{a:Act}{b i n B base m fuel D B':Nat}{l ch p t0 q:List Int}{w w' w1 w2:World}{t:TypeId}{P:Int->Int->Prop}{cs:Array Value}{A A':Option Addr}{o oi:Oper}{e s f st fl:Int}{xs:List (List Int×Int×Int×Int)}{ops:Array Oper}{rest l0:List Oper}{v:Value}{r:Option Nat}{rs rs2:List (Option Addr×Nat×Nat×List Int)}{E:Prop}{vs l3:List Value}{ad ai go:List Bool}{N:Act->Prop}{place:Nat->Option (Nat×Nat)}{bad:Bool}{es es':List (Int×List Int)}{T:List TypeId}{ps:List (List Int)}
def GoodV(n:Nat)(l:List Int):Prop:=∀i,i<n->(0<=l.getD (i*3) 0/\l.getD (i*3) 0<=7)/\(0<=l.getD (i*3+1) 0/\l.getD (i*3+1) 0<=1073741788)/\(0<=l.getD (i*3+2) 0/\l.getD (i*3+2) 0<=1073741788)
structure CmG (w:World) (x:CmP):Prop where
 ops:∃A n c l,x.O=.slice A n c/\OpsR w A n c l/\n<=4/\∀z ∈ l,0<=z/\z<=1099511627776
 votes:∃A n c l,x.V=.slice A n c/\VoteR w A n c l/\n<=8/\GoodV n l
 boxes:∃A n c,x.X=.slice A n c/\RdL w A n c 300/\n<=16
structure CmN (x:CmP):Prop where
 e:0<=x.e/\x.e<=1099511627776
 f:0<=x.f/\x.f<=7
 s:0<=x.s/\x.s<=2147483579
 p0:0<=x.p0/\x.p0<=2147483579
 p1:0<=x.p1/\x.p1<=2147483579
 p2:0<=x.p2/\x.p2<=2147483579
 E:0<=x.E/\x.E<=1073741788
 S:0<=x.S/\x.S<=1073741788
structure CmOt (w:World) (B:Nat) (y:CmP):Prop where
 tag:y.tag.length=32
 ops:∃A n c l,y.O=.slice A n c/\w.ownsRow B 55 5 (.slice A n c) n (ints .i64 l)/\n<=4/\∀z ∈ l,0<=z/\z<=1099511627776
 votes:∃A n c l,y.V=.slice A n c/\w.ownsRow B 118 3 (.slice A n c) n (ints .i64 l)/\n<=8/\GoodV n l
 boxes:∃A n c rs,y.X=.slice A n c/\BxS w B (.slice A n c) n rs/\n<=16
variable{y:CmP}
theorem CmOt.ok(h:CmOt w B y):CmOk w y:=by
 obtain⟨h1,⟨A,n,c,l,e1,h2,h3⟩,⟨A4,n4,c4,l4,e4,h5,h6⟩,⟨A7,n7,c7,rs,e7,h8,h9⟩⟩:=h;exact⟨h1,⟨A,n,c,l,e1,(own_rgI h2).rg,h3.1⟩,⟨A4,n4,c4,l4,e4,(own_rgI h5).rg,h6.1⟩,⟨A7,n7,c7,e7,h8.rdl,by omega⟩⟩
theorem CmOt.below(h:CmOt w B y)(hb:Bl w w'):CmOt w' B y:=by
 obtain⟨h1,⟨A,n,c,l,e1,h2,h3⟩,⟨A4,n4,c4,l4,e4,h5,h6⟩,⟨A7,n7,c7,rs,e7,h8,h9⟩⟩:=h;exact⟨h1,⟨A,n,c,l,e1,own_below h2 hb,h3⟩,⟨A4,n4,c4,l4,e4,own_below h5 hb,h6⟩,⟨A7,n7,c7,rs,e7,h8.below hb,h9⟩⟩
theorem CmOt.g{d:Nat}(h:CmOt w B y)(hg:w.grownBy w' (some d))(hd:d<B):CmOt w' B y:=by
 obtain⟨h1,⟨A,n,c,l,e1,h2,h3⟩,⟨A4,n4,c4,l4,e4,h5,h6⟩,⟨A7,n7,c7,rs,e7,h8,h9⟩⟩:=h;exact⟨h1,⟨A,n,c,l,e1,own_g h2 hg hd,h3⟩,⟨A4,n4,c4,l4,e4,own_g h5 hg hd,h6⟩,⟨A7,n7,c7,rs,e7,h8.g hg hd,h9⟩⟩
theorem CmOt.stag(h:CmOt w B y)(hl:l.length=32):CmOt w B ⟨y.e,y.f,y.O,y.V,y.s,y.p0,y.p1,y.p2,y.X,l,y.E,y.S⟩:=⟨hl,h.ops,h.votes,h.boxes⟩
theorem CmOt.ssig(h:CmOt w B y)(E S:Int):CmOt w B ⟨y.e,y.f,y.O,y.V,y.s,y.p0,y.p1,y.p2,y.X,y.tag,E,S⟩:=⟨h.tag,h.ops,h.votes,h.boxes⟩
theorem CmOt.good(h:CmOt w B y):CmG w y:=by
 obtain⟨h1,⟨A,n,c,l,e1,h2,h3⟩,⟨A4,n4,c4,l4,e4,h5,h6⟩,⟨A7,n7,c7,rs,e7,h8,h9⟩⟩:=h;exact⟨⟨A,n,c,l,e1,(own_rgI h2).rg,h3⟩,⟨A4,n4,c4,l4,e4,(own_rgI h5).rg,h6⟩,⟨A7,n7,c7,e7,h8.rdl,h9⟩⟩
theorem zcmOt(w:World)(B:Nat):CmOt w B zcm:=⟨rfl,⟨none,0,0,[],rfl,World.ownsRow_nil _ _ _ _,by omega,fun z h=>by cases h⟩,⟨none,0,0,[],rfl,World.ownsRow_nil _ _ _ _,by omega,fun i h=>by omega⟩,⟨none,0,0,[],rfl,BxS.nil w B,by omega⟩⟩
theorem CmOt.shead(h:CmOt w B y)(e f:Int):CmOt w B ⟨e,f,y.O,y.V,y.s,y.p0,y.p1,y.p2,y.X,y.tag,y.E,y.S⟩:=⟨h.tag,h.ops,h.votes,h.boxes⟩
theorem CmOt.skeys(h:CmOt w B y)(s p0 p1 p2:Int):CmOt w B (y.keys s p0 p1 p2):=⟨h.tag,h.ops,h.votes,h.boxes⟩
theorem CmOt.sops{c:Nat}(h:CmOt w B y)(hO:w.ownsRow B 55 5 (.slice A n c) n (ints .i64 l))(hn:n<=4/\∀z ∈ l,0<=z/\z<=1099511627776):CmOt w B ⟨y.e,y.f,.slice A n c,y.V,y.s,y.p0,y.p1,y.p2,y.X,y.tag,y.E,y.S⟩:=⟨h.tag,⟨A,n,c,l,rfl,hO,hn⟩,h.votes,h.boxes⟩
theorem CmOt.svotes{c:Nat}(h:CmOt w B y)(hO:w.ownsRow B 118 3 (.slice A n c) n (ints .i64 l))(hn:n<=8/\GoodV n l):CmOt w B ⟨y.e,y.f,y.O,.slice A n c,y.s,y.p0,y.p1,y.p2,y.X,y.tag,y.E,y.S⟩:=⟨h.tag,h.ops,⟨A,n,c,l,rfl,hO,hn⟩,h.boxes⟩
theorem CmOt.sboxes{c:Nat}(h:CmOt w B y)(hO:BxS w B (.slice A n c) n rs)(hn:n<=16):CmOt w B ⟨y.e,y.f,y.O,y.V,y.s,y.p0,y.p1,y.p2,.slice A n c,y.tag,y.E,y.S⟩:=⟨h.tag,h.ops,h.votes,⟨A,n,c,rs,rfl,hO,hn⟩⟩
theorem CmOt.gr2{c:Nat}(h:CmOt w B y)(hX:y.X=.slice none 0 0)(hg:Gr2 b c w w')(hb:b<B)(hc:c<B):CmOt w' B y:=by
 obtain⟨h1,⟨A,n,c',l,e1,h2,h3⟩,⟨A4,n4,c4,l4,e4,h5,h6⟩,-⟩:=h;exact⟨h1,⟨A,n,c',l,e1,own_gr2 h2 hg hb hc,h3⟩,⟨A4,n4,c4,l4,e4,own_gr2 h5 hg hb hc,h6⟩,⟨none,0,0,[],hX,BxS.nil w' B,by omega⟩⟩
theorem CmOt.chgk{g:Nat}(h:CmOt w B y)(hg:ChgK g w w')(hb:g<B):CmOt w' B y:=h.g hg.gr hb
structure CoT (w w':World) (b bv ba bx B:Nat) (x:PyP) (y:CmP) (x2:PyP) (V:List Value) (lA:List Bool) (p:List Int):Prop where
 N:(w.heap.size+1<bv/\w.heap.size+1<ba/\w.heap.size+1<bx)/\(bv<B/\ba<B/\bx<B)/\bv≠ba/\bv≠bx/\ba≠bx/\b<w.heap.size
 P:Blk w' w.heap.size .u8 43 p
 C:Cel w' (w.heap.size+1) 130 (cmC y)
 O:CmOt w' B y
 V:Cel w' bv 45 V
 A:Cel w' ba 41 (bools lA)
 X:Cel w' bx 82 (pyC x2)
 D:Cel w' b 82 (pyC x)
section
variable {w w' w'':World} {b bv ba bx B:Nat} {x:PyP} {y:CmP} {x2:PyP} {V:List Value} {lA:List Bool} {p:List Int}
theorem CoT.below(h:CoT w w' b bv ba bx B x y x2 V lA p)(hb:Bl w' w''):CoT w w'' b bv ba bx B x y x2 V lA p:=
 ⟨h.N,h.P.below hb h.P.lt,h.C.below hb h.C.lt,h.O.below hb,h.V.below hb h.V.lt,h.A.below hb h.A.lt,h.X.below hb h.X.lt,h.D.below hb h.D.lt⟩
theorem CoT.drew(h:CoT w w' b bv ba bx B x y x2 V lA p):CoT w w'.drew b bv ba bx B x y x2 V lA p:=h.below (Below.refl _ _).drew
variable{y':CmP}
theorem CoT.setC(h:CoT w w' b bv ba bx B x y x2 V lA p)(hg:w'.grownBy w'' (some (w.heap.size+1)))(hC:Cel w'' (w.heap.size+1) 130 (cmC y'))(hO:CmOt w'' B y'):CoT w w'' b bv ba bx B x y' x2 V lA p:=by
 obtain⟨⟨a1,a2,a3⟩,-,-,-,-,a4⟩:=h.N;exact⟨h.N,h.P.grown hg s_,hC,hO,h.V.grown hg s1_,h.A.grown hg s1_,h.X.grown hg s1_,h.D.grown hg s1_⟩
theorem CoT.setV{V':List Value}(h:CoT w w' b bv ba bx B x y x2 V lA p)(hg:w'.grownBy w'' (some bv))(hC:Cel w'' bv 45 V'):CoT w w'' b bv ba bx B x y x2 V' lA p:=by
 obtain⟨⟨a1,a2,a3⟩,⟨a5,a6,a7⟩,a8,a9,a10,a4⟩:=h.N;exact⟨h.N,h.P.grown hg s1_,h.C.grown hg s1_,h.O.g hg a5,hC,h.A.grown hg s1_,h.X.grown hg s1_,h.D.grown hg s1_⟩
variable{x3:PyP}
theorem CoT.setX(h:CoT w w' b bv ba bx B x y x2 V lA p)(hg:w'.grownBy w'' (some bx))(hC:Cel w'' bx 82 (pyC x3)):CoT w w'' b bv ba bx B x y x3 V lA p:=by
 obtain⟨⟨a1,a2,a3⟩,⟨a5,a6,a7⟩,a8,a9,a10,a4⟩:=h.N;exact⟨h.N,h.P.grown hg s1_,h.C.grown hg s1_,h.O.g hg a7,h.V.grown hg s1_,h.A.grown hg s1_,hC,h.D.grown hg s1_⟩
theorem CoT.climb{p0 p1 p2:Int}(h:CoT w w' b bv ba bx B x y x2 V lA p)(hX:y.X=.slice none 0 0)(hy:y'=y.keys s p0 p1 p2)(hg:Gr2 bx (w.heap.size+1) w' w'')(hC:Cel w'' (w.heap.size+1) 130 (cmC y'))(hD:Cel w'' bx 82 (pyC x3)):CoT w w'' b bv ba bx B x y' x3 V lA p:=by
 subst hy;obtain⟨⟨a1,a2,a3⟩,⟨a5,a6,a7⟩,a8,a9,a10,a4⟩:=h.N;exact⟨h.N,(hg.block _ h.P.lt o_ o_).trans h.P,hC,(h.O.gr2 hX hg o_ o_).skeys _ _ _ _,h.V.gr2 hg o_ o_,h.A.gr2 hg o_ o_,hD,h.D.gr2 hg o_ o_⟩
theorem CoT.chgk{g:Nat}(h:CoT w w' b bv ba bx B x y x2 V lA p)(hk:KeyAt w' g s)(hg:ChgK g w' w'')(hgw:g<w.heap.size):CoT w w'' b bv ba bx B x y x2 V lA p:=by
 obtain⟨⟨a1,a2,a3⟩,⟨a5,a6,a7⟩,a8,a9,a10,a4⟩:=h.N;have hb:=hk.apart h.D dd;exact⟨h.N,h.P.grown hg.gr s1_,h.C.grown hg.gr s1_,h.O.chgk hg o_,h.V.grown hg.gr s1_,h.A.grown hg.gr s1_,h.X.grown hg.gr s1_,h.D.grown hg.gr s1_⟩
end
def WlLt(w:World)(A:Option Addr)(n c:Nat):Prop:=n<=c/\∀j,j<n->∃b o z,A=some ⟨b,o,none⟩/\b<w.heap.size/\w.rangeAt b (o+j*108) (wlC z)/\WlOk w z/\WlT z
theorem WlLt.weak{c:Nat}(h:WlLt w A n c):WlL w A n c:=⟨h.1,fun j hj=>by
 obtain⟨b,o,z,h1,h2,h3,h4,-⟩:=h.2 j hj
 exact⟨b,o,z,h1,h2,h3,h4⟩⟩
variable{zs:List WlP}
theorem WlS.readt{c:Nat}(h:WlS w base (.slice A n c) n zs)(hg:∀z ∈ zs,WlT z):WlLt w A n c:=by
 have hi:=own_rgI h.own;refine⟨hi.rg.cap,fun j hj=>?_⟩;have hcap:=hi.rg.cap;obtain⟨b,o,e,hlt,hr⟩:=hi.rg.at_ o_;have hlen:=h.len;have hm:zs[j] ∈ zs:=List.getElem_mem _;refine⟨b,o,zs[j],e,hlt,fun k v hv=>?_,h.ok _ hm,hg _ hm⟩;rw[Nat.add_assoc];exact hr _ v (wl_chunk zs (fun z hz=>wl_len (h.ok z hz).vw (h.ok z hz).tag) j o_ k v hv)
def CoTR(x:PyP)(w:World)(r:Ending)(w':World):Prop:=∃y A n c p,r=.returned (.tuple #[.agg (cmC y).toArray,.slice A n c,.pointer p,.int .i64 0])/\CmOk w' y/\CmG w' y/\CmN y/\WlLt w' A n c/\n<=8/\(∀k,k<w.heap.size->∀W2,w'.grownBy W2 (some k)->(CmOk W2 y/\CmG W2 y)/\WlLt W2 A n c)/\∀a,p=some a->∃b2 x2,a=⟨b2,0,none⟩/\w.heap.size<=b2/\Cel w' b2 82 (pyC x2)/\PyOk x2/\x2.e=wrap64 (x.e+1)/\x2.G=x.G/\x2.lf=x.lf
def CoTP(g:Nat)(s:Int)(x:PyP)(w:World)(r:Ending)(w':World):Prop:=CoTR x w r w'/\KeyAt w' g s/\ChgK g w w'
structure ApX (x:PyP) (px py:Int) (z e2:Int) (t2:List Int) (ad2:List Bool) (k2:Int) (ch2:List Int) (ai go:List Bool):Prop where
 z:z=0
 e:e2=x.e
 po:PutOk x.t 1 px py t2
 ad:ad2=x.ad
 k:k2=x.k
 ch:ch2=x.ch
 ai:ai=zb.set 1 true
 go:go=zb
theorem apply_tx(x:PyP)(f px py:Int)(A:Option Addr)(c:Nat)(w:World)(h:PyOk x)(hr:OpsR w A 1 c [1,0,0,px,py])(hmv:MayV x.e x.k x.t x.ad)(hf:0<=f/\f<8/\memB x.t f.toNat=true)(hs:AddOk x.t px py 1): Calls prog 94 #[.agg (vw x.e x.t x.ad x.k x.ch).toArray,.int .i64 f,.slice A 1 c] w fun r w'=>(∃z e2 t2 ad2 k2 ch2 ai go,r=.returned (.tuple #[.agg (vw e2 t2 ad2 k2 ch2).toArray,.agg (bools ai).toArray,.agg (bools go).toArray,.int .i64 z])/\ApX x px py z e2 t2 ad2 k2 ch2 ai go)/\Bl w w':=by
 refine(apply_t x.e x.k f x.t x.ch x.ad A c px py 1 w h.vw hr hmv hf hs).mono ?_;rintro r w' ⟨⟨t2,hpo,rfl⟩,hb⟩;exact⟨⟨_,_,t2,_,_,_,_,_,rfl,rfl,rfl,hpo,rfl,rfl,rfl,rfl,rfl⟩,hb⟩
variable{x:PyP}
theorem ApX.keep{px py z e2 k2:Int}{t2 ch2:List Int}{ad2:List Bool}(h:ApX x px py z e2 t2 ad2 k2 ch2 ai go)(hmv:MayV x.e x.k x.t x.ad)(hf:0<=f/\f<8/\memB x.t f.toNat=true)(hs:AddOk x.t px py 1):ApK x.e x.k f x.t x.ad k2 t2 ad2 go:=by
 obtain⟨rfl,rfl,hpo,rfl,rfl,rfl,rfl,rfl⟩:=h;have kx:=pub_key hs.px;have ky:=pub_key hs.py;have up:∀i,i<8->memB x.t i=true->memB t2 i=true:=fun i hi hm=>by
  by_cases e:i=1
  · subst e;exact hpo.mem_self kx.2
  rw[hpo.mem i hi e];exact hm
 refine⟨hmv,⟨hmv.e0,hmv.e1,hpo.tree hmv.tree ⟨kx.1,ky.1,by simp[kx.2,ky.2]⟩,hmv.k1,hmv.kn,hpo.adm hs.px hmv.mem⟩,fun i hi hm=>.inl (up i hi hm),fun i hi e=>up i hi (by rw[<-e]at hf;exact hf.2.2)⟩
theorem ApX.two{px py z e2 k2 p0 p1 p2:Int}{t2 t3 ch2:List Int}{ad2:List Bool}(h:ApX x px py z e2 t2 ad2 k2 ch2 ai go)(hs:AddOk x.t px py 1)(hz:∀j,2<=j->j<31->x.t.getD j 0=0)(hk:KeyedOk t2 0 s p0 p1 p2 t3)(ho:OffP t2 t3):TwoOk t3:=by
 have hpo:=h.po;have hn:∀j,16<=j->j<31->t2.getD j 0=0:=fun j h1 h2=>by
  rcases hpo.nod j h1 with e|e
  · rw[e];exact hz j o_ h2
  exact e
 have hl:∀j,4<=j->j<16->t3.getD j 0=0:=fun j h1 h2=>by rw[hk.oth j h2 o_,hpo.oth j h2 o_ o_];exact hz j o_ o_
 refine⟨hk.len,fun m hm hzm=>?_,?_⟩
 · have hzm':m=4\/m=5\/m=6\/8<=m:=of_decide_eq_true hzm;unfold keyT;by_cases e:m % 2=0;(· rw[if_pos e];exact hl (m+1) o_ o_);rw[if_neg e,ho m hm o_ o_ o_];exact hn _ o_ o_
 show(if 2 % 2=0 then t3.getD (2+1) 0 else t3.getD (16+2) 0)≠0;rw[if_pos rfl,hk.oth 3 o_ o_];have:=hpo.e;rw[show 1*2+1=3 from rfl]at this;rw[this];exact(pub_key hs.py).2
theorem pub_rng{y:Int}(h:pubB y=true):0<=y/\y<=2147483579:=by
 unfold pubB at h;simp only[Bool.and_eq_true,decide_eq_true_eq]at h;omega
end Go.Proofs.YtppjnahcnofokaaGreat.T
