import Derived.Test.YtppjnahcnofokaaGreatM0
import Derived.Test.YtppjnahcnofokaaGreatM2
set_option maxRecDepth 100000
set_option maxHeartbeats 32000000
set_option linter.unusedSimpArgs false
set_option linter.unusedVariables false
namespace Go.Proofs.YtppjnahcnofokaaGreat.T
open Go.RowKit Go.Proofs.YtppjnahcnofokaaGreatW.PrintLast
open Go.Proofs.Tryz
variable{k:IntKind}{a:Act}{b i n B base m fuel D B':Nat}{l ch:List Int}{w w' w1 w2:World}{t:TypeId}{P:Program}{cs xs vs l3:List Value}{A A':Option Addr}{o oi:Oper}{e s f st fl:Int}{ops:Array Oper}{rest l0:List Oper}{v:Value}{r:Option Nat}{rs rs2:List (Option Addr×Nat×Nat×List Int)}{E:Prop}{ad ai go:List Bool}{N:Act->Prop}{place:Nat->Option (Nat×Nat)}{bad:Bool}{es es':List (Int×List Int)}{T:List TypeId}
theorem grownBy_drew'{row:Option Nat}(h:w.grownBy w' row):w.grownBy w'.drew row:=⟨h.os,h.tape,h.output,h.size,h.block⟩
theorem chAdmin_any(g:Nat)(e k f n:Int)(is:Bool)(t ch:List Int)(ad ai go:List Bool)(w:World)(ho:ChOk t ad ch ai go)(hg:Cel w g 224 (chg e t ad k ch f ai go)):Calls prog 193 #[.pointer (some ⟨g,0,none⟩),.int .i64 n,.bool is] w (ChPost g e ch f w):=by
 have HO:=hd_ ho;have HG:=hd_ hg;clear hg ho;go_enter func193,ntmps193
 go_wp2_with (refine wpList_load_mid rfl 45 (.tmp 9) rr g 0 rr (vw e t ad k ch) _ (chg_view HG.out) underlying45 rfl (vw_hi HO.out.vw) ?_);refine(isMember_any e k n t ch ad _ HO.out.vw).mono ?_;rintro _ w5 ⟨⟨q,rfl,hq⟩,hb5⟩;have HG5:=hd_ (HG.out.below hb5 HG.out.lt);have HB5:=hd_ hb5;clear hb5
 cases q with
 | false=>
  go_wp2_with fail;go_ret;exact chPost HO.out HG5.out (grownBy_of HB5.out)
 | true=>
  have hin:=hq rfl;clear hq;obtain⟨m,rfl⟩:=Int.eq_ofNat_of_zero_le hin.1;have hm:m<8:=by omega
  have c0:w5.cell? ⟨g,32+m,none⟩=some (.bool (ad.getD m false)):=by rw[HG5.out.cell,chg_admin HO.out m hm]
  have f0:=HG5.out.free (32+m);generalize ad.getD m false=q0 at c0
  cases hqi:(q0==is) with
  | true=>
   go_wp2_with fail;go_ret;exact chPost HO.out HG5.out (grownBy_of HB5.out)
  | false=>
   go_wp2_with fail;go_ret;exact chPost (ad:=ad.set m is) ⟨⟨HO.out.vw.tree,by rw[List.length_set];exact HO.out.vw.admins,HO.out.vw.chain⟩,HO.out.ai,HO.out.go⟩ (by rw[<-chg_set_admin HO.out m hm];exact HG5.out.set _ _) (grownBy_tr (grownBy_of HB5.out) (grownBy_set1 _ _ _ _))
theorem chRemove_any(g:Nat)(e k f n:Int)(t ch:List Int)(ad ai go:List Bool)(w:World)(ho:ChOk t ad ch ai go)(hg:Cel w g 224 (chg e t ad k ch f ai go)):Calls prog 192 #[.pointer (some ⟨g,0,none⟩),.int .i64 n] w (ChPost g e ch f w):=by
 have HO:=hd_ ho;have HG:=hd_ hg;clear hg ho;go_enter func192,ntmps192
 go_wp2_with (refine wpList_load_mid rfl 45 (.tmp 7) rr g 0 rr (vw e t ad k ch) _ (chg_view HG.out) underlying45 rfl (vw_hi HO.out.vw) ?_);refine(isMember_any e k n t ch ad _ HO.out.vw).mono ?_;rintro _ w5 ⟨⟨q,rfl,hq⟩,hb5⟩;have HG5:=hd_ (HG.out.below hb5 HG.out.lt);have HB5:=hd_ hb5;clear hb5
 cases q with
 | false=>
  go_wp2_with fail;go_ret;exact chPost HO.out HG5.out (grownBy_of HB5.out)
 | true=>
  have hin:=hq rfl
  clear hq
  obtain⟨m,rfl⟩:=Int.eq_ofNat_of_zero_le hin.1
  have hm:m<8:=by omega
  have c0:w5.cell? ⟨g,73,none⟩=some (.int .i64 f):=by rw[HG5.out.cell,chg_from HO.out]
  cases hqi:((m:Int)==f) with
  | true=>
   go_wp2_with fail;go_ret;exact chPost HO.out HG5.out (grownBy_of HB5.out)
  | false=>
   go_wp2_with (refine wpList_load_mid rfl 40 (.tmp 24) rr g 1 rr (ints .i64 t) _ (chg_tree HG5.out) underlying40 rfl (hi40 HO.out.vw.tree).out ?_)
   refine(put_any t m 0 0 w5 HO.out.vw.tree).mono ?_
   rintro _ w6 ⟨⟨t2,ht2,rfl⟩,hb6⟩
   have HG6:=hd_ (HG5.out.below hb6 HG5.out.lt)
   have Hb6:Hid (Bl w w6):=HB5.out.trans (hb6.mono HB5.out.size)
   have HO2:Hid (ChOk t2 ad ch ai go):=⟨⟨ht2,HO.out.vw.admins,HO.out.vw.chain⟩,HO.out.ai,HO.out.go⟩
   have HI2:Hid ((prog.info? 40).map (·.size)=some (ints .i64 t2).length):=hi40 ht2
   clear hb6 ht2 c0
   go_wp2_with (refine store_cel rfl 40 (.tmp 31) (.tmp 28) rr g 1 224 [.int .i64 e] (ints .i64 t) ((bools ad++([.int .i64 k]++ints .u8 ch))++([.int .i64 f]++(bools ai++bools go))) (ints .i64 t2) rr rr (chg_split HG6.out) rfl (by rw[ints_len,ints_len,HO.out.vw.tree,HO2.out.vw.tree]) HI2.out (all_ints _ _) ?_
                intro w7 hc7 hg7
                have HG7:Hid (Cel w7 g 224 (chg e t2 ad k ch f ai go)):=chg_join hc7
                have Hg7:Hid (w.grownBy w7 (some g)):=grownBy_tr (grownBy_of Hb6.out) hg7
                clear hc7 hg7)
   refine pr_ 0 19 (bt 19 0) fun w1d hw1d=>?_
   refine mG ?_
   have hH:=True.intro
   have d0:w1d.cell? ⟨g,32+m,none⟩=some (.bool (ad.getD m false)):=by rw[<-hw1d];exact(HG7.out.cell _).trans (chg_admin HO2.out m hm)
   have f0:w1d.frozen? ⟨g,32+m,none⟩=false:=by rw[<-hw1d];exact HG7.out.free _
   have HG7:Hid (Cel w1d g 224 (chg e t2 ad k ch f ai go)):=by rw[<-hw1d];exact HG7.out
   have Hg7:Hid (w.grownBy w1d (some g)):=by rw[<-hw1d];exact grownBy_drew' Hg7.out
   clear hw1d
   refine wpAny_of_last (S:=fun _=>True) (ds:=[18]) _ _ _ _ ?_
   refine ts_ 0 10 9 (bt 19 1023) hH ?_
   refine mT0 ?_
   refine ts_ 11 2 7 (bt 19 7167) hH ?_
   refine mT0 ?_
   refine ts_ 15 2 5 (bt 19 105471) hH ?_
   refine mT0 ?_
   refine one_ (i:=10) (N:=none) (bt 19 106495) rfl rfl kk dd (fun K hK=>?_)
   refine skip_ rr rfl (w1:=World.setCell w1d ⟨g,32+m,none⟩ (.bool false)) (by go_simp) ?_
   refine hK.out _ _ trivial (fun hH=>?_)
   clear hK K d0 f0
   generalize hWA:World.setCell w1d ⟨g,32+m,none⟩ (.bool false)=wA
   have HGA:Hid (Cel wA g 224 (chg e t2 (ad.set m false) k ch f ai go)):=by rw[<-hWA,<- chg_set_admin HO2.out m hm];exact HG7.out.set _ _
   have HgA:Hid (w.grownBy wA (some g)):=by rw[<-hWA];exact grownBy_tr Hg7.out (grownBy_set1 _ _ _ _)
   clear hWA
   have HOA:Hid (ChOk t2 (ad.set m false) ch ai go):=⟨⟨HO2.out.vw.tree,by rw[List.length_set];exact HO2.out.vw.admins,HO2.out.vw.chain⟩,HO2.out.ai,HO2.out.go⟩
   have d0:wA.cell? ⟨g,74+m,none⟩=some (.bool (ai.getD m false)):=by rw[HGA.out.cell,chg_ai HOA.out m hm]
   have f0:=HGA.out.free (74+m)
   refine ts_ 13 1 3 (bt 19 114687) hH ?_
   refine mT0 ?_
   refine one_ (i:=14) (N:=none) (bt 19 131071) rfl rfl kk dd (fun K hK=>?_)
   refine skip_ rr rfl (w1:=World.setCell wA ⟨g,74+m,none⟩ (.bool false)) (by go_simp) ?_
   refine hK.out _ _ trivial (fun hH=>?_)
   clear hK K d0 f0
   generalize hWB:World.setCell wA ⟨g,74+m,none⟩ (.bool false)=wB
   have HGB:Hid (Cel wB g 224 (chg e t2 (ad.set m false) k ch f (ai.set m false) go)):=by rw[<-hWB,<- chg_set_ai HOA.out m hm];exact HGA.out.set _ _
   have HgB:Hid (w.grownBy wB (some g)):=by rw[<-hWB];exact grownBy_tr HgA.out (grownBy_set1 _ _ _ _)
   clear hWB
   have HOB:Hid (ChOk t2 (ad.set m false) ch (ai.set m false) go):=⟨HOA.out.vw,by rw[List.length_set];exact HOA.out.ai,HOA.out.go⟩
   have d0:wB.cell? ⟨g,82+m,none⟩=some (.bool (go.getD m false)):=by rw[HGB.out.cell,chg_go HOB.out m hm]
   have f0:=HGB.out.free (82+m)
   refine ts_ 17 1 1 (bt 19 262143) hH ?_
   refine mT0 ?_
   refine tl_ 18 ?_
   refine mF ?_
   go_wp2
   go_ret
   exact chPost (go:=go.set m true) ⟨HOB.out.vw,HOB.out.ai,by rw[List.length_set];exact HOB.out.go⟩ (by rw[<-chg_set_go HOB.out m hm];exact HGB.out.set _ _) (grownBy_tr HgB.out (grownBy_set1 _ _ _ _))
end Go.Proofs.YtppjnahcnofokaaGreat.T
namespace Go.Proofs.YtppjnahcnofokaaGreat.T
open Go.RowKit Go.Proofs.YtppjnahcnofokaaGreatW.PrintLast
open Go.Proofs.Tryz
variable{k:IntKind}{a:Act}{b i n B base m fuel D B':Nat}{l ch:List Int}{w w' w1 w2:World}{t:TypeId}{P:Program}{cs xs vs l3:List Value}{A A':Option Addr}{o oi:Oper}{e s f st fl:Int}{ops:Array Oper}{rest l0:List Oper}{v:Value}{r:Option Nat}{rs rs2:List (Option Addr×Nat×Nat×List Int)}{E:Prop}{ad ai go:List Bool}{N:Act->Prop}{place:Nat->Option (Nat×Nat)}{bad:Bool}{es es':List (Int×List Int)}{T:List TypeId}
theorem chOp_any(g:Nat)(e k f a b c d e2:Int)(t ch:List Int)(ad ai go:List Bool)(w:World)(ho:ChOk t ad ch ai go)(hg:Cel w g 224 (chg e t ad k ch f ai go)):Calls prog 150 #[.pointer (some ⟨g,0,none⟩),opv a b c d e2] w (ChPost g e ch f w):=by
 obtain⟨w1,hW⟩:=ex_ (w.alloc (.cells #[.int .i64 a,.int .i64 b,.int .i64 c,.int .i64 d,.int .i64 e2] 55));have HG:Hid (Cel w1 g 224 (chg e t ad k ch f ai go)):=by rw[hW];exact hg.alloc _
 have Hb:Hid (Bl w w1):=by rw[hW];exact b0_
 have HO:=hd_ ho;have HW:=hd_ hW;clear hg ho hW;unfold opv;go_enter func150,ntmps150
 by_cases h1:a=1
 · subst h1;go_wp2_with fail;rw[<-HW.out];refine(chAdd_any g e k f d e2 t ch ad ai go w1 HO.out HG.out).mono ?_;rintro _ w5 ⟨⟨x,t2,ad2,k2,ai2,go2,rfl,ho2,hg2⟩,hb2⟩;go_wp2_with fail;go_ret;exact chPost ho2 hg2 (grownBy_tr (grownBy_of Hb.out) hb2)
 by_cases h2:a=2
 · subst h2;go_wp2_with fail;rw[<-HW.out];refine(chRemove_any g e k f b t ch ad ai go w1 HO.out HG.out).mono ?_;rintro _ w5 ⟨⟨x,t2,ad2,k2,ai2,go2,rfl,ho2,hg2⟩,hb2⟩;go_wp2_with fail;go_ret;exact chPost ho2 hg2 (grownBy_tr (grownBy_of Hb.out) hb2)
 by_cases h3:a=3
 · subst h3;go_wp2_with fail;rw[<-HW.out];refine(chAdmin_any g e k f b _ t ch ad ai go w1 HO.out HG.out).mono ?_;rintro _ w5 ⟨⟨x,t2,ad2,k2,ai2,go2,rfl,ho2,hg2⟩,hb2⟩;go_wp2_with fail;go_ret;exact chPost ho2 hg2 (grownBy_tr (grownBy_of Hb.out) hb2)
 by_cases h4:a=4
 · subst h4;go_wp2_with fail;rw[<-HW.out];refine(chAdmin_any g e k f b _ t ch ad ai go w1 HO.out HG.out).mono ?_;rintro _ w5 ⟨⟨x,t2,ad2,k2,ai2,go2,rfl,ho2,hg2⟩,hb2⟩;go_wp2_with fail;go_ret;exact chPost ho2 hg2 (grownBy_tr (grownBy_of Hb.out) hb2)
 have d0:(w.alloc (.cells #[.int .i64 a,.int .i64 b,.int .i64 c,.int .i64 d,.int .i64 e2] 55)).cell? ⟨g,40,none⟩=some (.int .i64 k):=by rw[<-HW.out,HG.out.cell,chg_k HO.out]
 have f0:(w.alloc (.cells #[.int .i64 a,.int .i64 b,.int .i64 c,.int .i64 d,.int .i64 e2] 55)).frozen? ⟨g,40,none⟩=false:=by rw[<-HW.out];exact HG.out.free 40
 by_cases hc1:c<1
 · clear d0 f0;go_wp2_with fail;go_ret;rw[<-HW.out];exact chPost HO.out HG.out (grownBy_of Hb.out)
 by_cases hc8:c > 8
 · clear d0 f0;go_wp2_with fail;go_ret;rw[<-HW.out];exact chPost HO.out HG.out (grownBy_of Hb.out)
 go_wp2_with fail;go_ret;rw[<-HW.out];exact chPost ⟨⟨HO.out.vw.tree,HO.out.vw.admins,HO.out.vw.chain⟩,HO.out.ai,HO.out.go⟩ (by rw[<-chg_set_k HO.out c];exact HG.out.set _ _) (grownBy_tr (grownBy_of Hb.out) (grownBy_set1 _ _ _ _))
end Go.Proofs.YtppjnahcnofokaaGreat.T
namespace Go.Proofs.YtppjnahcnofokaaGreat.T
open Go.RowKit Go.Proofs.YtppjnahcnofokaaGreatW.PrintLast
open Go.Proofs.Tryz
variable{k:IntKind}{a:Act}{b i n B base m fuel D B':Nat}{l ch:List Int}{w w' w1 w2:World}{t:TypeId}{P:Program}{cs xs vs l3:List Value}{A A':Option Addr}{o oi:Oper}{e s f st fl:Int}{ops:Array Oper}{rest l0:List Oper}{v:Value}{r:Option Nat}{rs rs2:List (Option Addr×Nat×Nat×List Int)}{E:Prop}{ad ai go:List Bool}{N:Act->Prop}{place:Nat->Option (Nat×Nat)}{bad:Bool}{es es':List (Int×List Int)}{T:List TypeId}
def OwnR(w:World)(n:Nat)(r:Ending)(w':World):Prop:=∃A c,r=.returned (.slice A n c)/\OwnB w' w.heap.size (.slice A n c) n
theorem vOps_any(A:Option Addr)(n c:Nat)(l:List Int)(w:World)(hr:OpsR w A n c l)(hn:n<=1000):Calls prog 98 #[.slice A n c] w fun r w'=>OwnR w (n*40) r w'/\Bl w w':=by
 have HR:=hd_ hr;clear hr;go_enter func98,ntmps98
 go_wp2_with fail;go_loopw [3,10] (fun vx v wr=>∃(i m:Nat) (A3:Option Addr) (c3:Nat),v=.int .i64 i/\vx=.slice A3 m c3/\i<=n/\m=i*40/\Hid (OwnB wr w.heap.size (.slice A3 m c3) m)/\Hid (Bl w wr)) (fun _ v _=>n-(intOf v).toNat)
 case atStart=>exact⟨0,0,none,0,rfl,rfl,Nat.zero_le _,rfl,OwnB.nil _ _,Below.refl _ _⟩
 case round=>
  obtain⟨wa,rfl⟩:=ex_ (wr);obtain⟨i,m,A3,c3,rfl,rfl,hi,hm,hO,hb⟩:=hrel;have HM:=hd_ hm;clear hm;by_cases hlt:i<n
  · obtain⟨b,o,x0,x1,x2,x3,x4,rfl,_,k0,k1,k2,k3,k4⟩:=(HR.out.below hb.out).at i hlt;have hcap:=HR.out.cap;go_wp2_with fail;obtain⟨w1,hW⟩:=ex_ ((wa.alloc (.cells #[.int .i64 x0,.int .i64 x1,.int .i64 x2,.int .i64 x3,.int .i64 x4] 55)).alloc (.cells #[.int .i64 x0,.int .i64 x1,.int .i64 x2,.int .i64 x3,.int .i64 x4] 3));(have HB:Hid (Blk w1 (wa.heap.size+1) .i64 3 [x0,x1,x2,x3,x4]):=by rw[hW];exact blk_new _ .i64 3 [x0,x1,x2,x3,x4] _ s_);(have hb1:Bl wa w1:=by rw[hW];exact bal b0_);have HO1:Hid (OwnB w1 w.heap.size (.slice A3 m c3) m):=hO.out.below hb1;(have HN:Hid ((Value.slice A3 m c3).ownBlock≠some (wa.heap.size+1)):=by obtain⟨l0,_,ho⟩:=hO.out;exact fun e=>by have:=(ho.lt _ e).2;omega);have Hb1:=tb_ hb hb1;have HW:=hd_ hW;clear hW hb1 k0 k1 k2 k3 k4;(go_loopw [3,28] (fun vx v wr2=>∃(j m2:Nat) (A3:Option Addr) (c3:Nat),v=.int .i64 j/\vx=.slice A3 m2 c3/\j<=5/\m2=i*40+j*8/\Hid (OwnB wr2 w.heap.size (.slice A3 m2 c3) m2)/\Hid (Bl w wr2)/\Hid (Blk wr2 (wa.heap.size+1) .i64 3 [x0,x1,x2,x3,x4])/\Hid ((Value.slice A3 m2 c3).ownBlock≠some (wa.heap.size+1))) (fun _ v _=>5-(intOf v).toNat));(case atStart=>rw[<-HW.out];exact⟨0,m,A3,c3,rfl,rfl,Nat.zero_le _,HM.out,HO1,Hb1,HB,HN⟩);case round=>
     clear HM HB HO1 HN Hb1 HW hO hb;obtain⟨j,m2,A3,c3,rfl,rfl,hj,hm2,hO,hb,HB,HN⟩:=hrel;have HM2:=hd_ hm2;(have hm2b:m2<=40040:=by omega);clear hm2;by_cases hlj:j<5;(· obtain⟨y,hy⟩:∃y,wr.cell? ⟨wa.heap.size+1,j,none⟩=some (.int .i64 y):=⟨_,HB.out.cell (List.getElem?_eq_getElem (by show j<5;omega))⟩;have HN0:=HN;go_wp2_with fail;refine(num_any y wr).mono ?_;rintro _ w4 ⟨⟨A4,c4,l4,rfl,ho4,hl4⟩,hb4⟩;have HR4:Hid (Rd w4 .u8 A4 8 c4 l4):=rd_own ho4 hl4;obtain⟨l3,hl3,hO3⟩:=hO.out.below hb4;have HO3:=hd_ hO3;have HL3:=hd_ hl3;have HB4:=hd_ (HB.out.below hb4 HB.out.lt);have Hb4:=tb_ hb hb4;clear hb4 ho4 hl4 hO3 hl3 hy;go_wp2_with (at_builtin;refine append_rg rfl (.tmp 32) (.tmp 34) 31 rfl w.heap.size 5 1 1 et31 (.slice A3 m2 c3) m2 (ints .u8 l3) rfl HO3.out A4 8 c4 (ints .u8 l4) rfl HR4.out.rg ints_one o_ (by unfold maxLen;omega) Hb4.out.size ?_;intro A7 c7 w7 hown7 hgrow hb7 hat);have HO7:Hid (OwnB w7 w.heap.size (.slice A7 (m2+8) c7) (m2+8)):=OwnB.app HL3.out HR4.out.len hown7;have HB7:Hid (Blk w7 (wa.heap.size+1) .i64 3 [x0,x1,x2,x3,x4]):=Cel.blk (HB4.out.cel.grown hgrow (fun e=>HN.out e.symm));(have HN7:Hid ((Value.slice A7 (m2+8) c7).ownBlock≠some (wa.heap.size+1)):=by have hlt:=HB4.out.lt;(rcases hat with e|e);(· show _≠_;rw[e];exact HN.out);show _≠_;rw[e];intro e';injection e' with e';omega);have Hb7:=hd_ (Hb4.out.trans hb7);clear hown7 hgrow hb7 hat;go_wp2_with fail;go_roundw;(case rel=>exact⟨j+1,m2+8,A7,c7,by go_num,rfl,by omega,by have:=HM2.out;omega,HO7,Hb7,HB7,HN7⟩);case measure=>simp[intOf];omega);(have hm:m2=(i+1)*40:=by have:=HM2.out;omega);have HMi:=hd_ hm;clear hm;go_wp2_with fail;exact⟨⟨i+1,m2,A3,c3,by go_num,rfl,by omega,HMi.out,hO,hb⟩,by simp[intOf];omega⟩
  go_wp2_with fail;go_ret;have e:n*40=m:=by have:=HM.out;omega
  rw[e];exact⟨⟨_,_,rfl,hO.out⟩,hb.out⟩
end Go.Proofs.YtppjnahcnofokaaGreat.T
namespace Go.Proofs.YtppjnahcnofokaaGreat.T
open Go.RowKit Go.Proofs.YtppjnahcnofokaaGreatW.PrintLast
open Go.Proofs.Tryz
variable{k:IntKind}{a:Act}{b i n B base m fuel D B':Nat}{l ch:List Int}{w w' w1 w2:World}{t:TypeId}{P:Program}{cs xs vs l3:List Value}{A A':Option Addr}{o oi:Oper}{e s f st fl:Int}{ops:Array Oper}{rest l0:List Oper}{v:Value}{r:Option Nat}{rs rs2:List (Option Addr×Nat×Nat×List Int)}{E:Prop}{ad ai go:List Bool}{N:Act->Prop}{place:Nat->Option (Nat×Nat)}{bad:Bool}{es es':List (Int×List Int)}{T:List TypeId}
theorem vw_crange{k:Int}{t:List Int}(h:VwOk t ad ch)(hC:Cel w b 45 (vw e t ad k ch)):w.rangeAt b 41 (ints .u8 ch):=by
 have:=Cel.range (l1:=.int .i64 e :: (ints .i64 t++(bools ad ++ [.int .i64 k]))) (l2:=ints .u8 ch) (l3:=[]) (by simpa[vw] using hC);have e:(Value.int IntKind.i64 e :: (ints .i64 t++(bools ad ++ [Value.int .i64 k]))).length=41:=by simp[ints_len,bools_len,h.tree,h.admins]
 rw[e]at this;exact this
theorem OwnB.drew(h:OwnB w base v n):OwnB w.drew base v n:=by
 obtain⟨l,h1,h2⟩:=h;exact⟨l,h1,h2.drew⟩
theorem rd_blk(h:Blk w b .u8 t l)(hn:l.length=n):Rd w .u8 (some ⟨b,0,none⟩) n n l:=by
 subst hn;exact⟨rfl,Nat.le_refl _,fun _=>⟨b,0,rfl,h.lt,h.range⟩⟩
theorem hi43(h:l.length=32):Hid ((prog.info? 43).map (·.size)=some (ints .u8 l).length):=by show _=_;rw[ints_len,h];exact info43
theorem vHash_any(e k:Int)(t ch:List Int)(ad:List Bool)(w:World)(h:VwOk t ad ch):Calls prog 97 #[.agg (vw e t ad k ch).toArray] w fun r w'=>IsH r/\Bl w w':=by
 obtain⟨w1,hW⟩:=ex_ ((w.alloc (.cells (vw e t ad k ch).toArray 45)).alloc (.cells (ints .u8 zl).toArray 43));have HC:Hid (Cel w1 w.heap.size 45 (vw e t ad k ch)):=by rw[hW];exact(Cel.new _ rfl rfl).alloc _
 have HZ:Hid (Row w1 (w.heap.size+1) .u8 43 32):=by rw[hW];exact Row.new zl _ rfl s_
 have Hb:Hid (Bl w w1):=by rw[hW];exact bal b0_
 have HV:=hd_ h;have HW:=hd_ hW;have HR:Hid (w1.rangeAt w.heap.size 32 (bools ad)):=by
  have:=Cel.range (l1:=.int .i64 e :: ints .i64 t) (l2:=bools ad) (l3:=[.int .i64 k]++ints .u8 ch) (by simpa[vw] using HC.out);have e:(Value.int IntKind.i64 e :: ints .i64 t).length=32:=by simp[ints_len,h.tree]
  rw[e]at this;exact this
 have HI:Hid ((prog.info? 41).map (·.size)=some (bools ad).length):=by show _=_;rw[bools_len,h.admins];exact info41
 have HIc:=hi43 h.chain;clear hW h;go_enter func97,ntmps97
 go_wp2_with ((change wpList _ _ _ _ _ ((w.alloc (.cells (vw e t ad k ch).toArray 45)).alloc (.cells (ints .u8 zl).toArray 43)));rw[<-HW.out];refine wpList_load_mid rfl 41 (.tmp 8) rr w.heap.size 32 rr (bools ad) _ HR.out underlying41 rfl HI.out ?_);go_loopw [3,10] (fun vx v wr=>∃(i m:Nat) (A3:Option Addr) (c3:Nat),v=.int .i64 i/\vx=.slice A3 m c3/\i<=8/\m=i/\Hid (OwnB wr w1.heap.size (.slice A3 m c3) m)/\Hid (Bl w1 wr)) (fun _ v _=>8-(intOf v).toNat)
 case atStart=>exact⟨0,0,none,0,rfl,rfl,Nat.zero_le _,rfl,OwnB.nil _ _,Below.refl _ _⟩
 case round=>
  obtain⟨i,m,A3,c3,rfl,rfl,hi,hm,hO,hb⟩:=hrel
  have HM:=hd_ hm
  have hm8:m<=8:=by omega
  clear hm
  by_cases hlt:i<8
  · obtain⟨b,hx⟩:=idx41 ad HV.out.admins i hlt wr;have HX:=hd_ hx;clear hx;obtain⟨l3,hl3,hO3⟩:=hO.out
    cases b with
    | false=>
     have hb1:Bl wr (wr.alloc (.cells #[.int .u8 0] 5)):=b0_;have Hb1:=tb_ hb hb1;have HO3:=hd_ (own_below hO3 hb1);have HL3:=hd_ hl3;clear hb1 hO3 hl3;go_wp2_with (first|(refine wpList_index rfl 41 (.tmp 9) (.tmp 10) rfl _ _ _ rr rr HX.out ?_)|(at_builtin;refine append_rg rfl (.tmp 14) (.tmp 16) 31 rfl w1.heap.size 5 1 1 et31 (.slice A3 m c3) m (ints .u8 l3) rfl HO3.out (some ⟨wr.heap.size,0,none⟩) 1 1 (ints .u8 [0]) rfl (rg_one wr 0) ints_one o_ (by unfold maxLen;omega) Hb1.out.size ?_;intro A4 c4 w4 hown4 hgrow hb4 hat));have HO4:Hid (OwnB w4 w1.heap.size (.slice A4 (m+1) c4) (m+1)):=OwnB.app HL3.out rfl hown4;have Hb4:=hd_ (Hb1.out.trans hb4);clear hown4 hgrow hb4 hat;go_wp2_with fail;exact⟨⟨i+1,m+1,A4,c4,by go_num,rfl,by omega,by have:=HM.out;omega,HO4,Hb4⟩,by simp[intOf];omega⟩
    | true=>
     have hb1:Bl wr (wr.alloc (.cells #[.int .u8 1] 5)):=b0_;have Hb1:=tb_ hb hb1;have HO3:=hd_ (own_below hO3 hb1);have HL3:=hd_ hl3;clear hb1 hO3 hl3;go_wp2_with (first|(refine wpList_index rfl 41 (.tmp 9) (.tmp 10) rfl _ _ _ rr rr HX.out ?_)|(at_builtin;refine append_rg rfl (.tmp 14) (.tmp 16) 31 rfl w1.heap.size 5 1 1 et31 (.slice A3 m c3) m (ints .u8 l3) rfl HO3.out (some ⟨wr.heap.size,0,none⟩) 1 1 (ints .u8 [1]) rfl (rg_one wr 1) ints_one o_ (by unfold maxLen;omega) Hb1.out.size ?_;intro A4 c4 w4 hown4 hgrow hb4 hat));have HO4:Hid (OwnB w4 w1.heap.size (.slice A4 (m+1) c4) (m+1)):=OwnB.app HL3.out rfl hown4;have Hb4:=hd_ (Hb1.out.trans hb4);clear hown4 hgrow hb4 hat;go_wp2_with fail;exact⟨⟨i+1,m+1,A4,c4,by go_num,rfl,by omega,by have:=HM.out;omega,HO4,Hb4⟩,by simp[intOf];omega⟩
  · (have hm:m=8:=by have:=HM.out;omega);subst hm;clear HM hm8;have HC5:=hd_ (HC.out.below hb.out HC.out.lt);go_wp2_with (refine wpList_load_mid rfl 40 (.tmp 19) rr w.heap.size 1 rr (ints .i64 t) _ (vw_trange HV.out HC5.out) underlying40 rfl (hi40 HV.out.tree).out ?_);refine(tHash_any t wr HV.out.tree).mono ?_;rintro _ w6 ⟨⟨lh,hlh,rfl⟩,hb6⟩;have HC6:=hd_ (HC5.out.below hb6 HC5.out.lt);have Hb6:=tb_ hb hb6;have HO6:=hd_ (hO.out.below hb6);have HLh:=hd_ hlh;clear hb6 hlh
    go_wp2_with (refine store_blk rfl 43 (.tmp 7) (.tmp 21) rr w6.heap.size .u8 lh rr rr (Row.new zl _ rfl rfl) HLh.out (by show _=_;rw[HLh.out];exact info43) ?_
                 intro w7 hB7 hg7
                 have HH7:=hd_ hB7
                 have hb7:Bl w6 w7:=b0_.grown hg7 s_ (fun k hk=>by cases hk;omega)
                 have HC7:=hd_ (HC6.out.below hb7 HC6.out.lt)
                 have HO7:=hd_ (HO6.out.below hb7)
                 have Hb7:=tb_ Hb6 hb7
                 clear hB7 hg7 hb7)
    refine pr_ 0 13 (bt 13 0) fun w1d hw1d=>?_;refine mG ?_;obtain⟨w8,hw8⟩:=ex_ (w1d);(have HC8:Hid (Cel w8 w.heap.size 45 (vw e t ad k ch)):=by rw[hw8,<- hw1d];exact HC7.out);(have Hb8:Hid (Bl w1 w8):=by rw[hw8,<- hw1d];exact Hb7.out.drew);(have HH8:Hid (Blk w8 w6.heap.size .u8 43 lh):=by rw[hw8,<- hw1d];exact HH7.out);(have HO8:Hid (OwnB w8 w1.heap.size (.slice A3 8 c3) 8):=by rw[hw8,<- hw1d];exact HO7.out.drew);(have hH:w1d.cell? ⟨w.heap.size,0,none⟩=some (.int .i64 e)/\w1d.cell? ⟨w.heap.size,40,none⟩=some (.int .i64 k)/\Hid (Bl w8 w1d):=by rw[<-hw8];exact⟨HC8.out.cell 0,(HC8.out.cell 40).trans (vw_k HV.out),Below.refl _ _⟩);clear hw1d hw8;refine wpAny_of_last (S:=fun w'=>w'.cell? ⟨w.heap.size,0,none⟩=some (.int .i64 e)/\w'.cell? ⟨w.heap.size,40,none⟩=some (.int .i64 k)/\Hid (Bl w8 w')) (ds:=[11,12]) _ _ _ _ ?_;refine ts_ 0 4 9 (bt 13 15) hH ?_;refine mD ?_;(repeat (first|(refine tk_ 43 (.tmp 22) w.heap.size 41 (ints .u8 ch) (fun _ h=>vw_crange HV.out (HC8.out.below h.2.2.out HC8.out.lt)) underlying43 rfl HIc.out ?_)|(refine uA ?_)|(refine mB3 ?_)));refine takes_nil ?_;refine ts_ 5 2 7 (bt 13 111) hH ?_;refine mD ?_;(repeat (first|(refine tk_ 43 (.tmp 22) w.heap.size 41 (ints .u8 ch) (fun _ h=>vw_crange HV.out (HC8.out.below h.2.2.out HC8.out.lt)) underlying43 rfl HIc.out ?_)|(refine uA ?_)|(refine mB3 ?_)));refine takes_nil ?_;refine ts_ 8 2 5 (bt 13 879) hH ?_;refine mD ?_;(repeat (first|(refine tk_ 43 (.tmp 22) w.heap.size 41 (ints .u8 ch) (fun _ h=>vw_crange HV.out (HC8.out.below h.2.2.out HC8.out.lt)) underlying43 rfl HIc.out ?_)|(refine uA ?_)|(refine mB3 ?_)));refine takes_nil ?_;refine one_ (i:=4) (N:=some 26) (bt 13 895) rfl rfl kk dd (fun K hK=>?_);refine goes_ func38 kk rfl #[.int .i64 e] rr rfl rfl mL ?_;refine(num_any e _).mono ?_;rintro _ w4 ⟨⟨A4,c4,l4,rfl,ho4,hl4⟩,hb4⟩;refine⟨_,rfl,?_⟩;have HR4:Hid (Rd w4 .u8 A4 8 c4 l4):=rd_own ho4 hl4;have hs4:w8.heap.size<=w4.heap.size:=Nat.le_trans hH.2.2.out.size hb4.size;refine hK.out _ _ ⟨(hb4.cell (Nat.lt_of_lt_of_le HC8.out.lt hH.2.2.out.size)).trans hH.1,(hb4.cell (Nat.lt_of_lt_of_le HC8.out.lt hH.2.2.out.size)).trans hH.2.1,hH.2.2.out.trans (hb4.mono hH.2.2.out.size)⟩ (fun hH=>?_);clear hK K ho4 hl4 hb4;refine mN ?_;refine one_ (i:=7) (N:=some 29) (bt 13 1023) rfl rfl kk dd (fun K hK=>?_);refine goes_ func38 kk rfl #[.int .i64 k] rr rfl rfl mL ?_;refine(num_any k _).mono ?_;rintro _ w5 ⟨⟨A5,c5,l5,rfl,ho5,hl5⟩,hb5⟩;refine⟨_,rfl,?_⟩;have HR5:Hid (Rd w5 .u8 A5 8 c5 l5):=rd_own ho5 hl5;have hs5:w8.heap.size<=w5.heap.size:=Nat.le_trans hH.2.2.out.size hb5.size;refine hK.out _ _ ⟨(hb5.cell (Nat.lt_of_lt_of_le HC8.out.lt hH.2.2.out.size)).trans hH.1,(hb5.cell (Nat.lt_of_lt_of_le HC8.out.lt hH.2.2.out.size)).trans hH.2.1,hH.2.2.out.trans (hb5.mono hH.2.2.out.size)⟩ (fun hH=>?_);have HR45:=hd_ (HR4.out.below hb5);clear hK K ho5 hl5 hb5;refine mN ?_;refine one_ (i:=10) (N:=some 32) (bt 13 2047) rfl rfl kk dd (fun K hK=>?_);refine value_ rr rfl (v:=.slice (some ⟨w5.heap.size,0,none⟩) 4 4) (w1:=w5.alloc (.cells #[.slice A4 8 c4,.slice A5 8 c5,.slice A3 8 c3,.slice (some ⟨w6.heap.size,0,none⟩) 32 32] 31)) (by go_simp) ?_;have hbB:Bl w5 (w5.alloc (.cells #[.slice A4 8 c4,.slice A5 8 c5,.slice A3 8 c3,.slice (some ⟨w6.heap.size,0,none⟩) 32 32] 31)):=b0_;have HbC:=hH.2.2;refine hK.out _ _ ⟨(hbB.cell (Nat.lt_of_lt_of_le HC8.out.lt hH.2.2.out.size)).trans hH.1,(hbB.cell (Nat.lt_of_lt_of_le HC8.out.lt hH.2.2.out.size)).trans hH.2.1,hH.2.2.out.trans (hbB.mono hH.2.2.out.size)⟩ (fun hH=>?_);clear hK K hbB;refine mN ?_;refine tl_ 11 ?_;refine mF ?_;have HH9:=hd_ (HH8.out.below HbC.out HH8.out.lt);obtain⟨l8,hl8⟩:=(HO8.out.below HbC.out).rd;have HR8:=hd_ hl8;have Hb9:=hd_ (Hb8.out.trans (HbC.out.mono Hb8.out.size))
    have HRR:Hid (RdR (w5.alloc (.cells #[.slice A4 8 c4,.slice A5 8 c5,.slice A3 8 c3,.slice (some ⟨w6.heap.size,0,none⟩) 32 32] 31)) (some ⟨w5.heap.size,0,none⟩) 4 4 60000 [(A4,8,c4,l4),(A5,8,c5,l5),(A3,8,c3,l8),(some ⟨w6.heap.size,0,none⟩,32,32,lh)]):=rdr_new w5 [(A4,8,c4,l4),(A5,8,c5,l5),(A3,8,c3,l8),(some ⟨w6.heap.size,0,none⟩,32,32,lh)] _ 4 rfl rfl (fun r hr=>by
     simp at hr
     rcases hr with rfl|rfl|rfl|rfl
     · exact⟨HR45.out,by show 8<=_;omega⟩
     · exact⟨HR5.out,by show 8<=_;omega⟩
     · exact⟨HR8.out,by show 8<=_;omega⟩
     · exact⟨rd_blk HH9.out HLh.out,by show 32<=_;omega⟩)
    have HbA:Hid (Bl w1 (w5.alloc (.cells #[.slice A4 8 c4,.slice A5 8 c5,.slice A3 8 c3,.slice (some ⟨w6.heap.size,0,none⟩) 32 32] 31))):=Hb9.out.alloc Hb9.out.size _;clear hl8;go_wp2_with fail;change Calls prog 37 #[.agg (ints .u8 ch).toArray,_,_] _ _;refine(derive_any ch _ _ 4 4 _ _ HV.out.chain dd HRR.out o_).mono ?_;rintro _ wz ⟨⟨lz,hlz,rfl⟩,hbz⟩;have Hbz:=tb_ HbA hbz;have HRz:=HZ.out.below Hbz.out HZ.out.lt;have HLz:=hd_ hlz;have hS:w.heap.size+1<w1.heap.size:=HZ.out.lt;clear hbz hlz;go_wp2_with (refine store_blk rfl 43 (.tmp 2) (.tmp 33) rr (w.heap.size+1) .u8 lz rr rr HRz HLz.out (by show _=_;rw[HLz.out];exact info43) ?_;intro w10 hB10 hg10);have hload:=hB10.loads underlying43 rfl (by show _=_;rw[HLz.out];exact info43);refine bodyPost_ret (v:=.agg (ints .u8 lz).toArray) (by simp[results,results97,asAddr,Act.put,hload]) rfl ⟨⟨lz,HLz.out,rfl⟩,?_⟩;exact(Hb.out.trans (Hbz.out.mono Hb.out.size)).grown hg10 (Nat.le_trans Hb.out.size Hbz.out.size) (fun k hk=>by cases hk;omega)
end Go.Proofs.YtppjnahcnofokaaGreat.T
namespace Go.Proofs.YtppjnahcnofokaaGreat.T
open Go.RowKit Go.Proofs.YtppjnahcnofokaaGreatW.PrintLast
open Go.Proofs.Tryz
variable{k:IntKind}{a:Act}{b i n B base m fuel D B':Nat}{l ch:List Int}{w w' w1 w2:World}{t:TypeId}{P:Program}{cs xs vs l3:List Value}{A A':Option Addr}{o oi:Oper}{e s f st fl:Int}{ops:Array Oper}{rest l0:List Oper}{v:Value}{r:Option Nat}{rs rs2:List (Option Addr×Nat×Nat×List Int)}{E:Prop}{ad ai go:List Bool}{N:Act->Prop}{place:Nat->Option (Nat×Nat)}{bad:Bool}{es es':List (Int×List Int)}{T:List TypeId}
def z32:List Int:=List.replicate 32 0
def zb:List Bool:=List.replicate 8 false
def zvw:List Value:=vw 0 z31 zb 0 z32
theorem zvOk:VwOk z31 zb z32:=⟨rfl,rfl,rfl⟩
theorem hiz45:(prog.info? 45).map (·.size)=some zvw.length:=vw_hi zvOk
theorem hiz41:(prog.info? 41).map (·.size)=some (bools zb).length:=info41
theorem zvw_all:zvw.toArray.all (·.oneCell')=true:=all_oneCell_toArray (vw_all _ _ _ _ _)
theorem bools_one(l:List Bool):∀v ∈ bools l,v.oneCell'=true:=by
 intro v hv;simp only[bools,List.mem_map]at hv;obtain⟨x,_,rfl⟩:=hv;rfl
theorem all_bools(l:List Bool):(bools l).toArray.all (·.oneCell')=true:=all_oneCell_toArray (bools_one l)
theorem zb_all:(bools zb).toArray.all (·.oneCell')=true:=all_bools zb
theorem hi41{l:List Bool}(h:l.length=8):(prog.info? 41).map (·.size)=some (bools l).length:=by rw[bools_len,h];exact info41
theorem step_store_cel{K:Act->World->Prop}{Q:Exit->Act->World->Prop}(hgd:o.guard=none)(t:TypeId)(x y:Operand)(ho:o.op=.store t x y)(b off:Nat)(u:TypeId)(l1 l0 l3 vs:List Value)(hx:a.eval x=.pointer (some ⟨b,off,none⟩))(hy:a.eval y=.agg vs.toArray)(hR:Cel w b u (l1++l0++l3))(h1:l1.length=off)(hl:l0.length=vs.length)(hi:(prog.info? t).map (·.size)=some vs.length)(hall:vs.toArray.all (·.oneCell')=true)(h:∀W2,Cel W2 b u (l1++vs++l3)->w.grownBy W2 (some b)->K (a.put o.dst undef) W2):if Region.wanted o (yielded ops a.tmps)=true then Oper.wp prog o a w K Q else E:=by
 subst h1;have hw:Region.wanted o (yielded ops a.tmps)=true:=by simp[Region.wanted,hgd]
 rw[if_pos hw];obtain⟨h1,h2⟩:=setCells_cel vs l1 l0 hR hl;exact wp_store_mid t x y ho b l1.length vs.toArray hx hy (hR.there (by simp[hl])) (by rw[hi];simp) hall (h _ h1 h2)
structure ApS (w w':World):Prop where
 c6:Cel w' (w.heap.size+1) 45 zvw
 c7:Cel w' (w.heap.size+1+1) 41 (bools zb)
 c8:Cel w' (w.heap.size+1+1+1) 41 (bools zb)
 below:Bl w w'
theorem ApS.drew(h:ApS w w'):ApS w w'.drew:=⟨h.c6,h.c7,h.c8,h.below.drew⟩
theorem ApS.gr(h:ApS w w1)(hg:w1.grownBy w2 (some b))(hb:w.heap.size+4<=b):ApS w w2:=
 ⟨h.c6.grown hg s1_,h.c7.grown hg s1_,h.c8.grown hg s1_,h.below.grown hg h.below.size (fun k hk=>by cases hk;omega)⟩
theorem ApS.keep6(h:ApS w w1)(hc:Cel w2 (w.heap.size+1) 45 zvw)(hg:w1.grownBy w2 (some (w.heap.size+1))):ApS w w2:=
 ⟨hc,h.c7.grown hg (by simp;try omega),h.c8.grown hg (by simp;try omega),h.below.grown hg h.below.size (fun k hk=>by cases hk;omega)⟩
theorem ApS.keep7(h:ApS w w1)(hc:Cel w2 (w.heap.size+1+1) 41 (bools zb))(hg:w1.grownBy w2 (some (w.heap.size+1+1))):ApS w w2:=
 ⟨h.c6.grown hg (by simp;try omega),hc,h.c8.grown hg (by simp;try omega),h.below.grown hg h.below.size (fun k hk=>by cases hk;omega)⟩
theorem ApS.keep8(h:ApS w w1)(hc:Cel w2 (w.heap.size+1+1+1) 41 (bools zb))(hg:w1.grownBy w2 (some (w.heap.size+1+1+1))):ApS w w2:=
 ⟨h.c6.grown hg (by simp;try omega),h.c7.grown hg (by simp;try omega),hc,h.below.grown hg h.below.size (fun k hk=>by cases hk;omega)⟩
theorem ApS.bel(h:ApS w w1)(hb:Bl w1 w2):ApS w w2:=
 ⟨h.c6.below hb h.c6.lt,h.c7.below hb h.c7.lt,h.c8.below hb h.c8.lt,h.below.trans (hb.mono h.below.size)⟩
theorem ApS.l6(h:ApS w w'):(loadVar 45 ⟨w.heap.size+1,0,none⟩).run prog w'=.ok (.agg zvw.toArray) w':=run_loadVar_mid (P:=prog) _ _ 0 45 zvw _ h.c6.all underlying45 rfl hiz45
theorem ApS.l7(h:ApS w w'):(loadVar 41 ⟨w.heap.size+1+1,0,none⟩).run prog w'=.ok (.agg (bools zb).toArray) w':=run_loadVar_mid (P:=prog) _ _ 0 41 (bools zb) _ h.c7.all underlying41 rfl hiz41
theorem ApS.l8(h:ApS w w'):(loadVar 41 ⟨w.heap.size+1+1+1,0,none⟩).run prog w'=.ok (.agg (bools zb).toArray) w':=run_loadVar_mid (P:=prog) _ _ 0 41 (bools zb) _ h.c8.all underlying41 rfl hiz41
theorem wpList_build{Q:Exit->Act->World->Prop}(hgd:o.guard=none)(t:TypeId)(ps:Array (Nat×Operand))(ho:o.op=.build t ps)(parts:Array (Nat×Value))(hp:(ps.map fun(i,x)=>(i,a.eval x))=parts)(v:Value)(hrun:(Instr.build t parts).run prog w=.ok v w)(h:wpList prog ops Q rest (a.put o.dst v) w):wpList prog ops Q (o :: rest) a w:=by
 refine wpList_plain hgd fun K hK=>?_;unfold Oper.wp execOp;simp only[ho,hp,Sem.run_bind,hrun,Result.andThen_ok];exact hK _ _ h
theorem fill_fold{off:Nat}:∀(vs l0 l1:List Value) (k:Nat),l0.length=vs.length->l1.length=off+k->(vs.zipIdx k).foldl (fun cs p=>cs.setIfInBounds (off+p.2) p.1) (l1++l0++l3).toArray=(l1++vs++l3).toArray
 | [],l0,l1,k,h,_=>by
  have:l0=[]:=List.length_eq_zero_iff.1 (by simpa using h);subst this;rfl
 | v :: r,[],l1,k,h,_=>by simp at h
 | v :: r,u :: l0,l1,k,h,h1=>by
  rw[List.zipIdx_cons,List.foldl_cons];have e:(l1++u :: l0++l3).toArray.setIfInBounds (off+k) v=((l1 ++ [v])++l0++l3).toArray:=by rw[<-h1];simp
  show(r.zipIdx (k+1)).foldl (fun cs p=>cs.setIfInBounds (off+p.2) p.1) ((l1++u :: l0++l3).toArray.setIfInBounds (off+k) v)=_;rw[e,fill_fold r l0 (l1 ++ [v]) (k+1) (by simpa using h) (by simp[h1];omega)];simp
theorem fill_splice{off size:Nat}{l1 l0:List Value}{rest:List (Nat×Value)}(hp:place i=some (off,size))(hv:v.cells=vs.toArray)(h1:l1.length=off)(h2:vs.length=size)(h0:l0.length=vs.length):Instr.fill place (l1++l0++l3).toArray ((i,v) :: rest)=Instr.fill place (l1++vs++l3).toArray rest:=by
 rw[Instr.fill,hp];have hf:=fill_fold (off:=off) (l3:=l3) vs l0 l1 0 h0 o_;simp only[hv];rw[if_neg s1_];congr 1;rw[<-hf];simp
theorem built224(parts:List (Nat×Value)):prog.built 224 parts=Instr.fill (#[(0,73),(73,1),(74,8),(82,8)][·]?) (chg 0 z31 zb 0 z32 0 zb zb).toArray parts:=by kernel_rfl
theorem run_build224(e k f:Int)(t ch:List Int)(ad:List Bool)(h:VwOk t ad ch)(w:World):(Instr.build 224 #[(0,.agg (vw e t ad k ch).toArray),(1,.int .i64 f)]).run prog w=.ok (.agg (chg e t ad k ch f zb zb).toArray) w:=by
 refine run_build w 224 _ _ ?_;rw[built224];have e1:chg 0 z31 zb 0 z32 0 zb zb=[]++vw 0 z31 zb 0 z32++([.int .i64 0]++(bools zb++bools zb)):=rfl;rw[e1,fill_splice (vs:=vw e t ad k ch) (off:=0) (size:=73) rfl rfl rfl (vw_len h) (by rw[vw_len h,vw_len zvOk])];have e2:([]:List Value)++vw e t ad k ch++([.int .i64 0]++(bools zb++bools zb))=vw e t ad k ch ++ [.int .i64 0]++(bools zb++bools zb):=by simp
 rw[e2,fill_splice (l1:=vw e t ad k ch) (l0:=[.int .i64 0]) (vs:=[.int .i64 f]) (off:=73) (size:=1) rfl rfl (vw_len h) rfl rfl];simp[Instr.fill,chg]
theorem Cel.vload{k:Int}{t:List Int}(h:Cel w b 45 (vw e t ad k ch))(hv:VwOk t ad ch):(loadVar 45 ⟨b,0,none⟩).run prog w=.ok (.agg (vw e t ad k ch).toArray) w:=vw_load hv h
theorem Cel.bload{l:List Bool}(h:Cel w b 41 (bools l))(hl:l.length=8):(loadVar 41 ⟨b,0,none⟩).run prog w=.ok (.agg (bools l).toArray) w:=run_loadVar_mid (P:=prog) _ _ 0 41 (bools l) _ h.all underlying41 rfl (hi41 hl)
theorem chg_airange{g:Nat}{k:Int}{t:List Int}(h:Cel w g 224 (chg e t ad k ch f ai go))(ho:ChOk t ad ch ai go):w.rangeAt g 74 (bools ai):=by
 have:=Cel.range (l1:=vw e t ad k ch ++ [.int .i64 f]) (l2:=bools ai) (l3:=bools go) (by simpa[chg] using h);have e1:(vw e t ad k ch ++ [Value.int .i64 f]).length=74:=by rw[List.length_append,vw_len ho.vw];rfl
 rw[e1]at this;exact this
theorem chg_gorange{g:Nat}{k:Int}{t:List Int}(h:Cel w g 224 (chg e t ad k ch f ai go))(ho:ChOk t ad ch ai go):w.rangeAt g 82 (bools go):=by
 have:=Cel.range (l1:=vw e t ad k ch++([.int .i64 f]++bools ai)) (l2:=bools go) (l3:=[]) (by simpa[chg] using h);have e1:(vw e t ad k ch++([Value.int .i64 f]++bools ai)).length=82:=by rw[List.length_append,vw_len ho.vw,List.length_append,bools_len,ho.ai];rfl
 rw[e1]at this;exact this
structure Ap16 (w w':World):Prop where
 c6:∃v,v.length=73/\Cel w' (w.heap.size+1) 45 v
 c7:∃v,v.length=8/\Cel w' (w.heap.size+1+1) 41 v
 c8:∃v,v.length=8/\Cel w' (w.heap.size+1+1+1) 41 v
 below:Bl w w'
theorem ApS.ap16(h:ApS w w'):Ap16 w w'.drew:=⟨⟨_,vw_len zvOk,h.c6⟩,⟨_,rfl,h.c7⟩,⟨_,rfl,h.c8⟩,h.below.drew⟩
theorem cel_ex{b':Nat}(h:∃v,v.length=n/\Cel w b t v)(hg:w.grownBy w' (some b'))(hne:b≠b'):∃v,v.length=n/\Cel w' b t v:=by
 obtain⟨v,h1,h2⟩:=h;exact⟨v,h1,h2.grown hg (by simpa using hne)⟩
theorem Ap16.gr6(h:Ap16 w w1)(hg:w1.grownBy w2 (some (w.heap.size+1)))(hc:∃v,v.length=73/\Cel w2 (w.heap.size+1) 45 v):Ap16 w w2:=
 ⟨hc,cel_ex h.c7 hg o_,cel_ex h.c8 hg o_,h.below.grown hg h.below.size (fun k hk=>by cases hk;omega)⟩
theorem Ap16.gr7(h:Ap16 w w1)(hg:w1.grownBy w2 (some (w.heap.size+1+1)))(hc:∃v,v.length=8/\Cel w2 (w.heap.size+1+1) 41 v):Ap16 w w2:=
 ⟨cel_ex h.c6 hg o_,hc,cel_ex h.c8 hg o_,h.below.grown hg h.below.size (fun k hk=>by cases hk;omega)⟩
theorem Ap16.gr8(h:Ap16 w w1)(hg:w1.grownBy w2 (some (w.heap.size+1+1+1)))(hc:∃v,v.length=8/\Cel w2 (w.heap.size+1+1+1) 41 v):Ap16 w w2:=
 ⟨cel_ex h.c6 hg o_,cel_ex h.c7 hg o_,hc,h.below.grown hg h.below.size (fun k hk=>by cases hk;omega)⟩
def ApR(e:Int)(ch:List Int)(f:Int)(n:Nat)(r:Ending):Prop:=∃x e2 t2 ad2 k2 ch2 ai go,r=.returned (.tuple #[.agg (vw e2 t2 ad2 k2 ch2).toArray,.agg (bools ai).toArray,.agg (bools go).toArray,.int .i64 x])/\VwOk t2 ad2 ch2/\ai.length=8/\go.length=8/\(x=0->e2=e/\ch2=ch/\n<=4/\0<=f/\f<8)
theorem apFail{x:Int}(hx:x≠0):ApR e ch f n (.returned (.tuple #[.agg zvw.toArray,.agg (bools zb).toArray,.agg (bools zb).toArray,.int .i64 x])):=
 ⟨x,0,z31,zb,0,z32,zb,zb,rfl,zvOk,rfl,rfl,fun h=>absurd h hx⟩
theorem apply_any(e k f:Int)(t ch:List Int)(ad:List Bool)(A:Option Addr)(n c:Nat)(l:List Int)(w:World)(h:VwOk t ad ch)(hr:OpsR w A n c l)(hn:n<=1000000): Calls prog 94 #[.agg (vw e t ad k ch).toArray,.int .i64 f,.slice A n c] w fun r w'=>ApR e ch f n r/\Bl w w':=by
 obtain⟨w1,hW⟩:=ex_ ((((w.alloc (.cells (vw e t ad k ch).toArray 45)).alloc (.cells zvw.toArray 45)).alloc (.cells (bools zb).toArray 41)).alloc (.cells (bools zb).toArray 41));have HC:Hid (Cel w1 w.heap.size 45 (vw e t ad k ch)):=by rw[hW];exact(((Cel.new _ rfl rfl).alloc _).alloc _).alloc _
 have HS:Hid (ApS w w1):=by rw[hW];exact⟨((Cel.new zvw s_ rfl).alloc _).alloc _,(Cel.new (bools zb) s_ rfl).alloc _,Cel.new (bools zb) s_ rfl,bal (bal (bal b0_))⟩
 have hsz1:w.heap.size+4<=w1.heap.size:=by rw[hW];simp
 have HR:Hid (OpsR w1 A n c l):=hr.below HS.out.below;have HV:=hd_ h;have HR0:=hd_ hr;have HW:=hd_ hW;clear hW h hr;go_enter func94,ntmps94
 go_wp2_with ((change wpList _ _ _ _ _ ((((w.alloc (.cells (vw e t ad k ch).toArray 45)).alloc (.cells zvw.toArray 45)).alloc (.cells (bools zb).toArray 41)).alloc (.cells (bools zb).toArray 41)));rw[<-HW.out];refine wpList_load_mid rfl 45 (.tmp 3) rr w.heap.size 0 rr (vw e t ad k ch) _ HC.out.all underlying45 rfl (vw_hi HV.out) ?_);refine(vIs_any e k t ch ad w1 HV.out).mono ?_;rintro _ w2 ⟨⟨q,rfl⟩,hb2⟩;have hb12:=hb2.size;have HC2:=hd_ (HC.out.below hb2 HC.out.lt);have HS2:=hd_ (HS.out.bel hb2);have HR2:=hd_ (HR.out.below hb2);clear hb2
 cases q with
 | false=>
  go_wp2_with fail;refine pr_ 0 7 (bt 7 0) fun w1d hw1d=>?_;refine mG ?_;have hH:Hid (ApS w w1d):=by rw[<-hw1d];exact(HS2).out.drew
  clear hw1d;refine wpAny_of_last (S:=fun w'=>Hid (ApS w w')) (ds:=[5,6]) _ _ _ _ ?_;refine ts_ 0 3 4 (bt 7 7) hH ?_;refine mD ?_;repeat (first|(refine tk_ 45 (.tmp 6) (w.heap.size+1) 0 (zvw) (fun _ h=>h.out.c6.all) underlying45 rfl hiz45 ?_)|(refine tk_ 41 (.tmp 7) (w.heap.size+1+1) 0 (bools zb) (fun _ h=>h.out.c7.all) underlying41 rfl hiz41 ?_)|(refine tk_ 41 (.tmp 8) (w.heap.size+1+1+1) 0 (bools zb) (fun _ h=>h.out.c8.all) underlying41 rfl hiz41 ?_)|(refine uA ?_)|(refine mB0 ?_))
  refine takes_nil ?_;refine one_ (i:=3) (N:=none) (bt 7 15) rfl rfl kk dd (fun K hK=>?_);refine step_store_cel rfl 45 (.tmp 6) (.tmp 29) rr (w.heap.size+1) 0 45 [] zvw [] zvw rr rr (by simpa using hH.out.c6) rfl rfl hiz45 zvw_all ?_;intro wA hA hgA;refine hK.out _ _ (hH.out.keep6 (by simpa using hA) hgA) (fun hH=>?_);clear hK K hA hgA;refine one_ (i:=4) (N:=none) (bt 7 31) rfl rfl kk dd (fun K hK=>?_);refine step_store_cel rfl 41 (.tmp 7) (.tmp 30) rr (w.heap.size+1+1) 0 41 [] (bools zb) [] (bools zb) rr rr (by simpa using hH.out.c7) rfl rfl hiz41 zb_all ?_;intro wB hB hgB;refine hK.out _ _ (hH.out.keep7 (by simpa using hB) hgB) (fun hH=>?_);clear hK K hB hgB;refine tl_ 5 ?_;refine mF ?_;have HH:=hH;clear hH;go_wp2_with (refine store_cel rfl 41 (.tmp 8) (.tmp 31) rr (w.heap.size+1+1+1) 0 41 [] (bools zb) [] (bools zb) rr rr (by simpa using HH.out.c8) rfl rfl hiz41 zb_all ?_;intro wC hC hgC);have HC:=hd_ (HH.out.keep8 (by simpa using hC) hgC);have h6:=HC.out.l6;have h7:=HC.out.l7;have h8:=HC.out.l8;refine bodyPost_ret (v:=.tuple #[.agg zvw.toArray,.agg (bools zb).toArray,.agg (bools zb).toArray,.int .i64 1]) (by simp[results,results94,asAddr,Act.put,h6,h7,h8]) rfl ⟨apFail dd,HC.out.below⟩
 | true=>
  by_cases hn4:n<=4
  · go_wp2_with fail;refine(hasOps_any A n c l w2 HR2.out o_).mono ?_;rintro _ w3 ⟨⟨q,rfl⟩,hb3⟩;have hb13:=hb3.size;have HC3:=hd_ (HC2.out.below hb3 HC2.out.lt);have HS3:=hd_ (HS2.out.bel hb3);have HR3:=hd_ (HR2.out.below hb3);clear hb3
    cases q with
    | true=>
     go_wp2_with fail;refine pr_ 0 7 (bt 7 0) fun w1d hw1d=>?_;refine mG ?_;(have hH:Hid (ApS w w1d):=by rw[<-hw1d];exact(HS3).out.drew);clear hw1d;refine wpAny_of_last (S:=fun w'=>Hid (ApS w w')) (ds:=[5,6]) _ _ _ _ ?_;refine ts_ 0 3 4 (bt 7 7) hH ?_;refine mD ?_;(repeat (first|(refine tk_ 45 (.tmp 6) (w.heap.size+1) 0 (zvw) (fun _ h=>h.out.c6.all) underlying45 rfl hiz45 ?_)|(refine tk_ 41 (.tmp 7) (w.heap.size+1+1) 0 (bools zb) (fun _ h=>h.out.c7.all) underlying41 rfl hiz41 ?_)|(refine tk_ 41 (.tmp 8) (w.heap.size+1+1+1) 0 (bools zb) (fun _ h=>h.out.c8.all) underlying41 rfl hiz41 ?_)|(refine uA ?_)|(refine mB0 ?_)));refine takes_nil ?_;refine one_ (i:=3) (N:=none) (bt 7 15) rfl rfl kk dd (fun K hK=>?_);refine step_store_cel rfl 45 (.tmp 6) (.tmp 29) rr (w.heap.size+1) 0 45 [] zvw [] zvw rr rr (by simpa using hH.out.c6) rfl rfl hiz45 zvw_all ?_;intro wA hA hgA;refine hK.out _ _ (hH.out.keep6 (by simpa using hA) hgA) (fun hH=>?_);clear hK K hA hgA;refine one_ (i:=4) (N:=none) (bt 7 31) rfl rfl kk dd (fun K hK=>?_);refine step_store_cel rfl 41 (.tmp 7) (.tmp 30) rr (w.heap.size+1+1) 0 41 [] (bools zb) [] (bools zb) rr rr (by simpa using hH.out.c7) rfl rfl hiz41 zb_all ?_;intro wB hB hgB;refine hK.out _ _ (hH.out.keep7 (by simpa using hB) hgB) (fun hH=>?_);clear hK K hB hgB;refine tl_ 5 ?_;refine mF ?_;have HH:=hH;clear hH;go_wp2_with (refine store_cel rfl 41 (.tmp 8) (.tmp 31) rr (w.heap.size+1+1+1) 0 41 [] (bools zb) [] (bools zb) rr rr (by simpa using HH.out.c8) rfl rfl hiz41 zb_all ?_;intro wC hC hgC);have HC:=hd_ (HH.out.keep8 (by simpa using hC) hgC);have h6:=HC.out.l6;have h7:=HC.out.l7;have h8:=HC.out.l8;refine bodyPost_ret (v:=.tuple #[.agg zvw.toArray,.agg (bools zb).toArray,.agg (bools zb).toArray,.int .i64 1]) (by simp[results,results94,asAddr,Act.put,h6,h7,h8]) rfl ⟨apFail dd,HC.out.below⟩
    | false=>
     go_wp2_with (refine wpList_load_mid rfl 45 (.tmp 3) rr w.heap.size 0 rr (vw e t ad k ch) _ HC3.out.all underlying45 rfl (vw_hi HV.out) ?_);refine(isMember_any e k f t ch ad w3 HV.out).mono ?_;rintro _ w4 ⟨⟨q,rfl,hq⟩,hb4⟩;have hb14:=hb4.size;have HC4:=hd_ (HC3.out.below hb4 HC3.out.lt);have HS4:=hd_ (HS3.out.bel hb4);have HR4:=hd_ (HR3.out.below hb4);clear hb4
     cases q with
     | false=>
      go_wp2_with fail;refine pr_ 0 7 (bt 7 0) fun w1d hw1d=>?_;refine mG ?_;(have hH:Hid (ApS w w1d):=by rw[<-hw1d];exact(HS4).out.drew);clear hw1d;refine wpAny_of_last (S:=fun w'=>Hid (ApS w w')) (ds:=[5,6]) _ _ _ _ ?_;refine ts_ 0 3 4 (bt 7 7) hH ?_;refine mD ?_;(repeat (first|(refine tk_ 45 (.tmp 6) (w.heap.size+1) 0 (zvw) (fun _ h=>h.out.c6.all) underlying45 rfl hiz45 ?_)|(refine tk_ 41 (.tmp 7) (w.heap.size+1+1) 0 (bools zb) (fun _ h=>h.out.c7.all) underlying41 rfl hiz41 ?_)|(refine tk_ 41 (.tmp 8) (w.heap.size+1+1+1) 0 (bools zb) (fun _ h=>h.out.c8.all) underlying41 rfl hiz41 ?_)|(refine uA ?_)|(refine mB0 ?_)));refine takes_nil ?_;refine one_ (i:=3) (N:=none) (bt 7 15) rfl rfl kk dd (fun K hK=>?_);refine step_store_cel rfl 45 (.tmp 6) (.tmp 37) rr (w.heap.size+1) 0 45 [] zvw [] zvw rr rr (by simpa using hH.out.c6) rfl rfl hiz45 zvw_all ?_;intro wA hA hgA;refine hK.out _ _ (hH.out.keep6 (by simpa using hA) hgA) (fun hH=>?_);clear hK K hA hgA;refine one_ (i:=4) (N:=none) (bt 7 31) rfl rfl kk dd (fun K hK=>?_);refine step_store_cel rfl 41 (.tmp 7) (.tmp 38) rr (w.heap.size+1+1) 0 41 [] (bools zb) [] (bools zb) rr rr (by simpa using hH.out.c7) rfl rfl hiz41 zb_all ?_;intro wB hB hgB;refine hK.out _ _ (hH.out.keep7 (by simpa using hB) hgB) (fun hH=>?_);clear hK K hB hgB;refine tl_ 5 ?_;refine mF ?_;have HH:=hH;clear hH;go_wp2_with (refine store_cel rfl 41 (.tmp 8) (.tmp 39) rr (w.heap.size+1+1+1) 0 41 [] (bools zb) [] (bools zb) rr rr (by simpa using HH.out.c8) rfl rfl hiz41 zb_all ?_;intro wC hC hgC);have HC:=hd_ (HH.out.keep8 (by simpa using hC) hgC);have h6:=HC.out.l6;have h7:=HC.out.l7;have h8:=HC.out.l8;refine bodyPost_ret (v:=.tuple #[.agg zvw.toArray,.agg (bools zb).toArray,.agg (bools zb).toArray,.int .i64 6]) (by simp[results,results94,asAddr,Act.put,h6,h7,h8]) rfl ⟨apFail dd,HC.out.below⟩
     | true=>
      have hf:=hq rfl;have HF:=hd_ hf;clear hq hf;(have hw4:w.heap.size+4<=w4.heap.size:=by omega);have hbld:=run_build224 e k f t ch ad HV.out;have HBld:=hd_ (hbld w4);clear hbld;go_wp2_with (first|(refine wpList_load_mid rfl 45 (.tmp 3) rr w.heap.size 0 rr (vw e t ad k ch) _ HC4.out.all underlying45 rfl (vw_hi HV.out) ?_)|(refine wpList_build rfl 224 _ rr #[(0,.agg (vw e t ad k ch).toArray),(1,.int .i64 f)] (by simp only[List.map_toArray,List.map_cons,List.map_nil];rfl) _ HBld.out ?_));obtain⟨g,hg⟩:∃g,w4.heap.size=g:=⟨_,rfl⟩;obtain⟨w5,hW5⟩:=ex_ (w4.alloc (.cells (chg e t ad k ch f zb zb).toArray 224));(have HG5:Hid (Cel w5 g 224 (chg e t ad k ch f zb zb)):=by rw[hW5];exact Cel.new _ hg rfl);(have HS5:Hid (ApS w w5):=by rw[hW5];exact HS4.out.bel b0_);(have hg4:w.heap.size+4<=g:=by omega);have HW5:=hd_ hW5;clear hW5;rw[hg];(go_loopw [46] (fun v wr=>∃(i:Nat) (t2:List Int) (ad2:List Bool) (k2:Int) (ai go:List Bool),v=.int .i64 i/\i<=n/\Hid (ChOk t2 ad2 ch ai go)/\Hid (Cel wr g 224 (chg e t2 ad2 k2 ch f ai go))/\Hid (ApS w wr)) (fun v _=>n-(intOf v).toNat));(case atStart=>rw[<-HW5.out];exact⟨0,t,ad,k,zb,zb,rfl,Nat.zero_le _,⟨HV.out,rfl,rfl⟩,HG5,HS5⟩);case round=>
       clear HG5 HS5 HW5;obtain⟨i,t2,ad2,k2,ai,go,rfl,hi,HO,HG,HSr⟩:=hrel;by_cases hlt:i<n;(· obtain⟨b,o,x0,x1,x2,x3,x4,rfl,_,d0,d1,d2,d3,d4⟩:=(HR0.out.below HSr.out.below).at i hlt;have hcap:=HR0.out.cap;obtain⟨wA,hWA⟩:=ex_ (wr.alloc (.cells #[.int .i64 x0,.int .i64 x1,.int .i64 x2,.int .i64 x3,.int .i64 x4] 55));(have HGA:Hid (Cel wA g 224 (chg e t2 ad2 k2 ch f ai go)):=by rw[hWA];exact HG.out.alloc _);(have HSA:Hid (ApS w wA):=by rw[hWA];exact HSr.out.bel b0_);have HWA:=hd_ hWA;clear hWA;go_wp2_with fail;rw[<-HWA.out];refine(chOp_any g e k2 f x0 x1 x2 x3 x4 t2 ch ad2 ai go wA HO.out HGA.out).mono ?_;rintro _ wB ⟨⟨x,t3,ad3,k3,ai3,go3,rfl,ho3,hg3⟩,hb3⟩;have HO3:=hd_ ho3;have HG3:=hd_ hg3;have HSB:=hd_ (HSA.out.gr hb3 hg4);clear ho3 hg3 hb3 d0 d1 d2 d3 d4;by_cases hx0:x=0;(· subst hx0;go_wp2_with fail;go_roundw;(case rel=>exact⟨i+1,t3,ad3,k3,ai3,go3,by go_num,by omega,HO3,HG3,HSB⟩);case measure=>simp[intOf];omega);go_wp2_with fail;have HX0:=hd_ hx0;clear hx0;refine pr_ 0 8 (bt 8 0) fun w1d hw1d=>?_;refine mG ?_;(have hH:Hid (ApS w w1d):=by rw[<-hw1d];exact(HSB).out.drew);clear hw1d;refine wpAny_of_last (S:=fun w'=>Hid (ApS w w')) (ds:=[6,7]) _ _ _ _ ?_;refine ts_ 0 3 5 (bt 8 7) hH ?_;refine mD ?_;(repeat (first|(refine tk_ 45 (.tmp 6) (w.heap.size+1) 0 (zvw) (fun _ h=>h.out.c6.all) underlying45 rfl hiz45 ?_)|(refine tk_ 41 (.tmp 7) (w.heap.size+1+1) 0 (bools zb) (fun _ h=>h.out.c7.all) underlying41 rfl hiz41 ?_)|(refine tk_ 41 (.tmp 8) (w.heap.size+1+1+1) 0 (bools zb) (fun _ h=>h.out.c8.all) underlying41 rfl hiz41 ?_)|(refine uA ?_)|(refine mB0 ?_)));refine takes_nil ?_;refine ps_ 3 1 4 (bt 8 15) ?_;refine mT1 ?_;refine one_ (i:=4) (N:=none) (bt 8 31) rfl rfl kk dd (fun K hK=>?_);refine step_store_cel rfl 45 (.tmp 6) (.tmp 55) rr (w.heap.size+1) 0 45 [] zvw [] zvw rr rr (by simpa using hH.out.c6) rfl rfl hiz45 zvw_all ?_;intro wA hA hgA;refine hK.out _ _ (hH.out.keep6 (by simpa using hA) hgA) (fun hH=>?_);clear hK K hA hgA;refine one_ (i:=5) (N:=none) (bt 8 63) rfl rfl kk dd (fun K hK=>?_);refine step_store_cel rfl 41 (.tmp 7) (.tmp 56) rr (w.heap.size+1+1) 0 41 [] (bools zb) [] (bools zb) rr rr (by simpa using hH.out.c7) rfl rfl hiz41 zb_all ?_;intro wB hB hgB;refine hK.out _ _ (hH.out.keep7 (by simpa using hB) hgB) (fun hH=>?_);clear hK K hB hgB;refine tl_ 6 ?_;refine mF ?_;have HH:=hH;clear hH;go_wp2_with (refine store_cel rfl 41 (.tmp 8) (.tmp 57) rr (w.heap.size+1+1+1) 0 41 [] (bools zb) [] (bools zb) rr rr (by simpa using HH.out.c8) rfl rfl hiz41 zb_all ?_;intro wC hC hgC);have HC:=hd_ (HH.out.keep8 (by simpa using hC) hgC);have h6:=HC.out.l6;have h7:=HC.out.l7;have h8:=HC.out.l8;refine bodyPost_ret (v:=.tuple #[.agg zvw.toArray,.agg (bools zb).toArray,.agg (bools zb).toArray,.int .i64 x]) (by simp[results,results94,asAddr,Act.put,h6,h7,h8]) rfl ⟨apFail (by exact HX0.out),HC.out.below⟩);go_wp2_with fail;refine pr_ 0 11 (bt 11 0) fun w1d hw1d=>?_;refine mG ?_;(have hH:w1d.cell? ⟨g,40,none⟩=some (.int .i64 k2)/\Hid (ApS w w1d)/\Hid (Cel w1d g 224 (chg e t2 ad2 k2 ch f ai go)):=by rw[<-hw1d];exact⟨(HG.out.cell 40).trans (chg_k HO.out),HSr.out.drew,HG.out⟩);clear hw1d;refine wpAny_of_last (S:=fun w'=>w'.cell? ⟨g,40,none⟩=some (.int .i64 k2)/\Hid (ApS w w')/\Hid (Cel w' g 224 (chg e t2 ad2 k2 ch f ai go))) (ds:=[10]) _ _ _ _ ?_;refine ts_ 0 4 7 (bt 11 15) hH ?_;refine mD ?_;(repeat (first|(refine tk_ 45 (.tmp 62) g 0 (vw e t2 ad2 k2 ch) (fun _ h=>chg_view (h.2.2.out)) underlying45 rfl (vw_hi HO.out.vw) ?_)|(refine uA ?_)|(refine mB3 ?_)));refine takes_nil ?_;refine ts_ 5 5 2 (bt 11 1007) hH ?_;refine mD ?_;(repeat (first|(refine tk_ 45 (.tmp 62) g 0 (vw e t2 ad2 k2 ch) (fun _ h=>chg_view (h.2.2.out)) underlying45 rfl (vw_hi HO.out.vw) ?_)|(refine uA ?_)|(refine mB3 ?_)));refine takes_nil ?_;refine one_ (i:=4) (N:=some 64) (bt 11 1023) rfl rfl kk dd (fun K hK=>?_);refine goes_ func151 kk rfl #[.agg (vw e t2 ad2 k2 ch).toArray] rr rfl rfl mL ?_;refine(admins_any e k2 t2 ch ad2 _ HO.out.vw).mono ?_;rintro _ wq ⟨⟨xa,rfl⟩,hbq⟩;refine⟨_,rfl,?_⟩;refine hK.out _ _ ⟨(hbq.cell hH.2.2.out.lt).trans hH.1,hH.2.1.out.bel hbq,hH.2.2.out.below hbq hH.2.2.out.lt⟩ (fun hH=>?_);clear hK K hbq;refine mN ?_;refine tl_ 10 ?_;refine mF ?_;have HSq:=hH.2.1;have HGq:=hH.2.2;clear hH;by_cases hlk:xa<k2;(· go_wp2_with fail;refine pr_ 0 7 (bt 7 0) fun w1d hw1d=>?_;refine mG ?_;(have hH:Hid (ApS w w1d):=by rw[<-hw1d];exact(HSq).out.drew);clear hw1d;refine wpAny_of_last (S:=fun w'=>Hid (ApS w w')) (ds:=[5,6]) _ _ _ _ ?_;refine ts_ 0 3 4 (bt 7 7) hH ?_;refine mD ?_;(repeat (first|(refine tk_ 45 (.tmp 6) (w.heap.size+1) 0 (zvw) (fun _ h=>h.out.c6.all) underlying45 rfl hiz45 ?_)|(refine tk_ 41 (.tmp 7) (w.heap.size+1+1) 0 (bools zb) (fun _ h=>h.out.c7.all) underlying41 rfl hiz41 ?_)|(refine tk_ 41 (.tmp 8) (w.heap.size+1+1+1) 0 (bools zb) (fun _ h=>h.out.c8.all) underlying41 rfl hiz41 ?_)|(refine uA ?_)|(refine mB0 ?_)));refine takes_nil ?_;refine one_ (i:=3) (N:=none) (bt 7 15) rfl rfl kk dd (fun K hK=>?_);refine step_store_cel rfl 45 (.tmp 6) (.tmp 71) rr (w.heap.size+1) 0 45 [] zvw [] zvw rr rr (by simpa using hH.out.c6) rfl rfl hiz45 zvw_all ?_;intro wA hA hgA;refine hK.out _ _ (hH.out.keep6 (by simpa using hA) hgA) (fun hH=>?_);clear hK K hA hgA;refine one_ (i:=4) (N:=none) (bt 7 31) rfl rfl kk dd (fun K hK=>?_);refine step_store_cel rfl 41 (.tmp 7) (.tmp 72) rr (w.heap.size+1+1) 0 41 [] (bools zb) [] (bools zb) rr rr (by simpa using hH.out.c7) rfl rfl hiz41 zb_all ?_;intro wB hB hgB;refine hK.out _ _ (hH.out.keep7 (by simpa using hB) hgB) (fun hH=>?_);clear hK K hB hgB;refine tl_ 5 ?_;refine mF ?_;have HH:=hH;clear hH;go_wp2_with (refine store_cel rfl 41 (.tmp 8) (.tmp 73) rr (w.heap.size+1+1+1) 0 41 [] (bools zb) [] (bools zb) rr rr (by simpa using HH.out.c8) rfl rfl hiz41 zb_all ?_;intro wC hC hgC);have HC:=hd_ (HH.out.keep8 (by simpa using hC) hgC);have h6:=HC.out.l6;have h7:=HC.out.l7;have h8:=HC.out.l8;refine bodyPost_ret (v:=.tuple #[.agg zvw.toArray,.agg (bools zb).toArray,.agg (bools zb).toArray,.int .i64 7]) (by simp[results,results94,asAddr,Act.put,h6,h7,h8]) rfl ⟨apFail dd,HC.out.below⟩);go_wp2_with fail;refine pr_ 0 16 (bt 16 0) fun w1d hw1d=>?_;refine mG ?_;(have hH:Hid (Cel w1d g 224 (chg e t2 ad2 k2 ch f ai go)/\Ap16 w w1d):=by rw[<-hw1d];exact⟨HGq.out,HSq.out.ap16⟩);clear hw1d;refine wpAny_of_last (S:=fun w'=>Hid (Cel w' g 224 (chg e t2 ad2 k2 ch f ai go)/\Ap16 w w')) (ds:=[15]) _ _ _ _ ?_;refine ts_ 0 12 4 (bt 16 4095) hH ?_;refine mD ?_;(repeat (first|(refine tk_ 45 (.tmp 76) g 0 (vw e t2 ad2 k2 ch) (fun _ h=>chg_view (h.out.1)) underlying45 rfl (vw_hi HO.out.vw) ?_)|(refine tk_ 41 (.tmp 80) g 74 (bools ai) (fun _ h=>chg_airange h.out.1 HO.out) underlying41 rfl (hi41 HO.out.ai) ?_)|(refine tk_ 41 (.tmp 84) g 82 (bools go) (fun _ h=>chg_gorange h.out.1 HO.out) underlying41 rfl (hi41 HO.out.go) ?_)|(refine uA ?_)|(refine mB0 ?_)));refine takes_nil ?_;refine one_ (i:=12) (N:=none) (bt 16 8191) rfl rfl kk dd (fun K hK=>?_);obtain⟨v6,hl6,hc6⟩:=hH.out.2.c6;refine step_store_cel rfl 45 (.tmp 6) (.tmp 77) rr (w.heap.size+1) 0 45 [] v6 [] (vw e t2 ad2 k2 ch) rr rr (by simpa using hc6) rfl (by rw[hl6,vw_len HO.out.vw]) (vw_hi HO.out.vw) (all_oneCell_toArray (vw_all _ _ _ _ _)) ?_;intro wA hA hgA;(have HA6:Hid (Cel wA (w.heap.size+1) 45 (vw e t2 ad2 k2 ch)):=by show Cel _ _ _ _;simpa using hA);refine hK.out _ _ ⟨hH.out.1.grown hgA s1_,hH.out.2.gr6 hgA ⟨_,vw_len HO.out.vw,HA6.out⟩⟩ (fun hH=>?_);clear hK K hA hgA hc6 hl6;refine one_ (i:=13) (N:=none) (bt 16 16383) rfl rfl kk dd (fun K hK=>?_);obtain⟨v7,hl7,hc7⟩:=hH.out.2.c7;refine step_store_cel rfl 41 (.tmp 7) (.tmp 81) rr (w.heap.size+1+1) 0 41 [] v7 [] (bools ai) rr rr (by simpa using hc7) rfl (by rw[hl7,bools_len,HO.out.ai]) (hi41 HO.out.ai) (all_bools _) ?_;intro wB hB hgB;have HB6:Hid (Cel wB (w.heap.size+1) 45 (vw e t2 ad2 k2 ch)):=HA6.out.grown hgB (by simp;try omega);(have HB7:Hid (Cel wB (w.heap.size+1+1) 41 (bools ai)):=by show Cel _ _ _ _;simpa using hB);refine hK.out _ _ ⟨hH.out.1.grown hgB s1_,hH.out.2.gr7 hgB ⟨_,by rw[bools_len,HO.out.ai],HB7.out⟩⟩ (fun hH=>?_);clear hK K hB hgB hc7 hl7;refine one_ (i:=14) (N:=none) (bt 16 32767) rfl rfl kk dd (fun K hK=>?_);obtain⟨v8,hl8,hc8⟩:=hH.out.2.c8;refine step_store_cel rfl 41 (.tmp 8) (.tmp 85) rr (w.heap.size+1+1+1) 0 41 [] v8 [] (bools go) rr rr (by simpa using hc8) rfl (by rw[hl8,bools_len,HO.out.go]) (hi41 HO.out.go) (all_bools _) ?_;intro wC hC hgC;have HZ:Hid (Cel wC g 224 (chg e t2 ad2 k2 ch f ai go)/\Cel wC (w.heap.size+1) 45 (vw e t2 ad2 k2 ch)/\Cel wC (w.heap.size+1+1) 41 (bools ai)/\Cel wC (w.heap.size+1+1+1) 41 (bools go)/\Bl w wC):=⟨hH.out.1.grown hgC s1_,HB6.out.grown hgC (by simp;try omega),HB7.out.grown hgC (by simp;try omega),by simpa using hC,hH.out.2.below.grown hgC hH.out.2.below.size (fun k hk=>by cases hk;omega)⟩;refine hK.out _ _ ⟨HZ.out.1,hH.out.2.gr8 hgC ⟨_,by rw[bools_len,HO.out.go],HZ.out.2.2.2.1⟩⟩ (fun hH=>?_);clear hK K hC hgC hc8 hl8;refine tl_ 15 ?_;refine mF ?_;have hSz:=HZ;go_wp2_with fail;have h6:=hSz.out.2.1.vload HO.out.vw;have h7:=hSz.out.2.2.1.bload HO.out.ai;have h8:=hSz.out.2.2.2.1.bload HO.out.go;refine bodyPost_ret (v:=.tuple #[.agg (vw e t2 ad2 k2 ch).toArray,.agg (bools ai).toArray,.agg (bools go).toArray,.int .i64 0]) (by simp[results,results94,asAddr,Act.put,h6,h7,h8]) rfl ⟨⟨0,e,t2,ad2,k2,ch,ai,go,rfl,HO.out.vw,HO.out.ai,HO.out.go,fun _=>⟨rfl,rfl,hn4,HF.out⟩⟩,hSz.out.2.2.2.2⟩
  go_wp2_with fail;refine pr_ 0 7 (bt 7 0) fun w1d hw1d=>?_;refine mG ?_;have hH:Hid (ApS w w1d):=by rw[<-hw1d];exact(HS2).out.drew
  clear hw1d;refine wpAny_of_last (S:=fun w'=>Hid (ApS w w')) (ds:=[5,6]) _ _ _ _ ?_;refine ts_ 0 3 4 (bt 7 7) hH ?_;refine mD ?_;repeat (first|(refine tk_ 45 (.tmp 6) (w.heap.size+1) 0 (zvw) (fun _ h=>h.out.c6.all) underlying45 rfl hiz45 ?_)|(refine tk_ 41 (.tmp 7) (w.heap.size+1+1) 0 (bools zb) (fun _ h=>h.out.c7.all) underlying41 rfl hiz41 ?_)|(refine tk_ 41 (.tmp 8) (w.heap.size+1+1+1) 0 (bools zb) (fun _ h=>h.out.c8.all) underlying41 rfl hiz41 ?_)|(refine uA ?_)|(refine mB0 ?_))
  refine takes_nil ?_;refine one_ (i:=3) (N:=none) (bt 7 15) rfl rfl kk dd (fun K hK=>?_);refine step_store_cel rfl 45 (.tmp 6) (.tmp 29) rr (w.heap.size+1) 0 45 [] zvw [] zvw rr rr (by simpa using hH.out.c6) rfl rfl hiz45 zvw_all ?_;intro wA hA hgA;refine hK.out _ _ (hH.out.keep6 (by simpa using hA) hgA) (fun hH=>?_);clear hK K hA hgA;refine one_ (i:=4) (N:=none) (bt 7 31) rfl rfl kk dd (fun K hK=>?_);refine step_store_cel rfl 41 (.tmp 7) (.tmp 30) rr (w.heap.size+1+1) 0 41 [] (bools zb) [] (bools zb) rr rr (by simpa using hH.out.c7) rfl rfl hiz41 zb_all ?_;intro wB hB hgB;refine hK.out _ _ (hH.out.keep7 (by simpa using hB) hgB) (fun hH=>?_);clear hK K hB hgB;refine tl_ 5 ?_;refine mF ?_;have HH:=hH;clear hH;go_wp2_with (refine store_cel rfl 41 (.tmp 8) (.tmp 31) rr (w.heap.size+1+1+1) 0 41 [] (bools zb) [] (bools zb) rr rr (by simpa using HH.out.c8) rfl rfl hiz41 zb_all ?_;intro wC hC hgC);have HC:=hd_ (HH.out.keep8 (by simpa using hC) hgC);have h6:=HC.out.l6;have h7:=HC.out.l7;have h8:=HC.out.l8;refine bodyPost_ret (v:=.tuple #[.agg zvw.toArray,.agg (bools zb).toArray,.agg (bools zb).toArray,.int .i64 1]) (by simp[results,results94,asAddr,Act.put,h6,h7,h8]) rfl ⟨apFail dd,HC.out.below⟩
end Go.Proofs.YtppjnahcnofokaaGreat.T
namespace Go.Proofs.YtppjnahcnofokaaGreat.T
open Go.RowKit Go.Proofs.YtppjnahcnofokaaGreatW.PrintLast
open Go.Proofs.Tryz
variable{k:IntKind}{a:Act}{b i n B base m fuel D B':Nat}{l ch:List Int}{w w' w1 w2:World}{t:TypeId}{P:Program}{cs xs vs l3:List Value}{A A':Option Addr}{o oi:Oper}{e s f st fl:Int}{ops:Array Oper}{rest l0:List Oper}{v:Value}{r:Option Nat}{rs rs2:List (Option Addr×Nat×Nat×List Int)}{E:Prop}{ad ai go:List Bool}{N:Act->Prop}{place:Nat->Option (Nat×Nat)}{bad:Bool}{es es':List (Int×List Int)}{T:List TypeId}
theorem isAdmin_any(e k n:Int)(t ch:List Int)(ad:List Bool)(w:World)(h:VwOk t ad ch):Calls prog 95 #[.agg (vw e t ad k ch).toArray,.int .i64 n] w fun r w'=>MemOk n r/\Bl w w':=by
 obtain⟨w1,hW⟩:=ex_ (w.alloc (.cells (vw e t ad k ch).toArray 45));have HC:Hid (Cel w1 w.heap.size 45 (vw e t ad k ch)):=by rw[hW];exact Cel.new _ rfl rfl
 have HV:=hd_ h;have HW:=hd_ hW;clear hW h;go_enter func95,ntmps95
 by_cases h0:0<=n
 · by_cases h8:n<8
   · obtain⟨m,rfl⟩:=Int.eq_ofNat_of_zero_le h0;(have hm:m<8:=by omega);(have c0:(w.alloc (.cells (vw e t ad k ch).toArray 45)).cell? ⟨w.heap.size,32+m,none⟩=some (.bool (ad.getD m false)):=by rw[<-HW.out,HC.out.cell];exact vw_admin HV.out m hm);go_wp2_with fail
     all_goals
      go_ret
      exact⟨⟨_,rfl,fun _=>⟨h0,h8⟩⟩,b0_⟩
   go_wp2;go_ret;exact⟨⟨_,rfl,by simp⟩,b0_⟩
 go_wp2;go_ret;exact⟨⟨_,rfl,by simp⟩,b0_⟩
theorem paper_any(e k f:Int)(t ch:List Int)(ad:List Bool)(A:Option Addr)(n c:Nat)(l:List Int)(w:World)(h:VwOk t ad ch)(hr:OpsR w A n c l)(hn:n<=1000):Calls prog 63 #[.agg (vw e t ad k ch).toArray,.int .i64 f,.slice A n c] w fun r w'=>IsH r/\Bl w w':=by
 obtain⟨w1,hW⟩:=ex_ ((w.alloc (.cells (vw e t ad k ch).toArray 45)).alloc (.cells (ints .u8 zl).toArray 43));have HC:Hid (Cel w1 w.heap.size 45 (vw e t ad k ch)):=by rw[hW];exact(Cel.new _ rfl rfl).alloc _
 have HZ:Hid (Row w1 (w.heap.size+1) .u8 43 32):=by rw[hW];exact Row.new zl _ rfl s_
 have Hb:Hid (Bl w w1):=by rw[hW];exact bal b0_
 have HV:=hd_ h;have HR:Hid (OpsR w1 A n c l):=hr.below Hb.out;have HW:=hd_ hW;clear hW h hr;go_enter func63,ntmps63
 go_wp2_with ((change wpList _ _ _ _ _ ((w.alloc (.cells (vw e t ad k ch).toArray 45)).alloc (.cells (ints .u8 zl).toArray 43)));rw[<-HW.out];refine wpList_load_mid rfl 45 (.tmp 3) rr w.heap.size 0 rr (vw e t ad k ch) _ HC.out.all underlying45 rfl (vw_hi HV.out) ?_);refine(vHash_any e k t ch ad w1 HV.out).mono ?_;rintro _ w2 ⟨⟨lh,hlh,rfl⟩,hb2⟩;have HR2:=hd_ (HR.out.below hb2);have HB2:=hd_ hb2;have HLh:=hd_ hlh;clear hb2 hlh;go_wp2_with fail;refine(num_any f w2).mono ?_;rintro _ w3 ⟨⟨A3,c3,l3,rfl,ho3,hl3⟩,hb3⟩;have HR3:=hd_ (HR2.out.below hb3);have HB3:=tb_ HB2 hb3;have HN3:Hid (Rd w3 .u8 A3 8 c3 l3):=rd_own ho3 hl3;clear hb3 ho3 hl3;go_wp2_with fail;refine(vOps_any A n c l w3 HR3.out hn).mono ?_;rintro _ w4 ⟨⟨A4,c4,rfl,ho4⟩,hb4⟩;have HN4:=hd_ (HN3.out.below hb4);have HB4:=tb_ HB3 hb4;obtain⟨l4,hl4⟩:=ho4.rd
 have HRR:Hid (RdR (w4.alloc (.cells #[.slice A3 8 c3,.slice A4 (n*40) c4] 31)) (some ⟨w4.heap.size,0,none⟩) 2 2 60000 [(A3,8,c3,l3),(A4,n*40,c4,l4)]):=rdr_new w4 [(A3,8,c3,l3),(A4,n*40,c4,l4)] _ 2 rfl rfl (fun r hr=>by
  simp at hr
  rcases hr with rfl|rfl
  · exact⟨HN4.out,by show 8<=_;omega⟩
  · exact⟨hl4,by show n*40<=_;omega⟩)
 have HbA:Hid (Bl w1 (w4.alloc (.cells #[.slice A3 8 c3,.slice A4 (n*40) c4] 31))):=HB4.out.alloc HB4.out.size _;clear hb4 hl4 ho4;go_wp2_with fail;refine(derive_any lh _ _ 2 2 _ _ HLh.out dd HRR.out o_).mono ?_;rintro _ wz ⟨⟨lz,hlz,rfl⟩,hbz⟩;have Hbz:=tb_ HbA hbz;have HRz:=HZ.out.below Hbz.out HZ.out.lt;have HLz:=hd_ hlz;have hS:w.heap.size+1<w1.heap.size:=HZ.out.lt;clear hbz hlz;go_wp2_with (refine store_blk rfl 43 (.tmp 6) (.tmp 14) rr (w.heap.size+1) .u8 lz rr rr HRz HLz.out (by show _=_;rw[HLz.out];exact info43) ?_;intro w10 hB10 hg10);have hload:=hB10.loads underlying43 rfl (by show _=_;rw[HLz.out];exact info43);refine bodyPost_ret (v:=.agg (ints .u8 lz).toArray) (by simp[results,results63,asAddr,Act.put,hload]) rfl ⟨⟨lz,HLz.out,rfl⟩,?_⟩;exact(Hb.out.trans (Hbz.out.mono Hb.out.size)).grown hg10 (Nat.le_trans Hb.out.size Hbz.out.size) (fun k hk=>by cases hk;omega)
theorem ChgK.gr{g:Nat}(h:ChgK g w w'):w.grownBy w' (some g):=⟨h.os,h.tape,h.output,h.size,fun k hk hne=>h.block k hk (fun e=>hne (by rw[e]))⟩
theorem stores3{o1 o2 o3:Oper}{w5:World}{Q:Exit->Act->World->Prop}{k:Int}{t:List Int}(g1:o1.guard=none)(g2:o2.guard=none)(g3:o3.guard=none)(d1:o1.dst=none)(d2:o2.dst=none)(d3:o3.dst=none)(x1 y1 x2 y2 x3 y3:Operand)(ho1:o1.op=.store 45 x1 y1)(ho2:o2.op=.store 41 x2 y2)(ho3:o3.op=.store 41 x3 y3)(hx1:a.eval x1=.pointer (some ⟨w5.heap.size,0,none⟩))(hx2:a.eval x2=.pointer (some ⟨w5.heap.size+1,0,none⟩))(hx3:a.eval x3=.pointer (some ⟨w5.heap.size+1+1,0,none⟩))(hy1:a.eval y1=.agg (vw e t ad k ch).toArray)(hy2:a.eval y2=.agg (bools ai).toArray)(hy3:a.eval y3=.agg (bools go).toArray)(hv:VwOk t ad ch)(hai:ai.length=8)(hgo:go.length=8)(h:∀W8,Cel W8 w5.heap.size 45 (vw e t ad k ch)->Cel W8 (w5.heap.size+1) 41 (bools ai)->Cel W8 (w5.heap.size+1+1) 41 (bools go)->Bl w5 W8->wpList prog ops Q rest a W8):wpList prog ops Q (o1 :: o2 :: o3 :: rest) a (((w5.alloc (.cells zvw.toArray 45)).alloc (.cells (bools zb).toArray 41)).alloc (.cells (bools zb).toArray 41)):=by
 have c1:Cel (((w5.alloc (.cells zvw.toArray 45)).alloc (.cells (bools zb).toArray 41)).alloc (.cells (bools zb).toArray 41)) w5.heap.size 45 zvw:=((Cel.new zvw rfl rfl).alloc _).alloc _;have c2:Cel (((w5.alloc (.cells zvw.toArray 45)).alloc (.cells (bools zb).toArray 41)).alloc (.cells (bools zb).toArray 41)) (w5.heap.size+1) 41 (bools zb):=(Cel.new (bools zb) s_ rfl).alloc _;have c3:Cel (((w5.alloc (.cells zvw.toArray 45)).alloc (.cells (bools zb).toArray 41)).alloc (.cells (bools zb).toArray 41)) (w5.heap.size+1+1) 41 (bools zb):=Cel.new (bools zb) s_ rfl;have hb:Bl w5 (((w5.alloc (.cells zvw.toArray 45)).alloc (.cells (bools zb).toArray 41)).alloc (.cells (bools zb).toArray 41)):=bal (bal b0_);generalize ((w5.alloc (.cells zvw.toArray 45)).alloc (.cells (bools zb).toArray 41)).alloc (.cells (bools zb).toArray 41)=w6 at c1 c2 c3 hb ⊢;refine store_cel g1 45 x1 y1 ho1 w5.heap.size 0 45 [] zvw [] (vw e t ad k ch) hx1 hy1 (by simpa using c1) rfl (by rw[vw_len hv,zvw,vw_len zvOk]) (vw_hi hv) (all_oneCell_toArray (vw_all _ _ _ _ _)) ?_;intro w7 h7 hg7;rw[d1];refine store_cel g2 41 x2 y2 ho2 (w5.heap.size+1) 0 41 [] (bools zb) [] (bools ai) hx2 hy2 (by simpa using c2.grown hg7 s_) rfl (by rw[bools_len ai,hai];rfl) (hi41 hai) (all_bools _) ?_;intro w8 h8 hg8;rw[d2];refine store_cel g3 41 x3 y3 ho3 (w5.heap.size+1+1) 0 41 [] (bools zb) [] (bools go) hx3 hy3 (by simpa using(c3.grown hg7 s1_).grown hg8 s_) rfl (by rw[bools_len go,hgo];rfl) (hi41 hgo) (all_bools _) ?_;intro w9 h9 hg9;rw[d3];have hb7:=hb.grown hg7 hb.size (fun k hk=>by cases hk;omega);have hb8:=hb7.grown hg8 hb7.size (fun k hk=>by cases hk;omega);have hb9:=hb8.grown hg9 hb8.size (fun k hk=>by cases hk;omega);exact h w9 (Cel.grown (Cel.grown (by simpa using h7) hg8 s_) hg9 s1_) (Cel.grown (by simpa using h8) hg9 s_) (by simpa using h9) hb9
end Go.Proofs.YtppjnahcnofokaaGreat.T
namespace Go.Proofs.YtppjnahcnofokaaGreat.T
open Go.RowKit Go.Proofs.YtppjnahcnofokaaGreatW.PrintLast
open Go.Proofs.Tryz
variable{k:IntKind}{a:Act}{b i n B base m fuel D B':Nat}{l ch:List Int}{w w' w1 w2:World}{t:TypeId}{P:Program}{cs xs vs l3:List Value}{A A':Option Addr}{o oi:Oper}{e s f st fl:Int}{ops:Array Oper}{rest l0:List Oper}{v:Value}{r:Option Nat}{rs rs2:List (Option Addr×Nat×Nat×List Int)}{E:Prop}{ad ai go:List Bool}{N:Act->Prop}{place:Nat->Option (Nat×Nat)}{bad:Bool}{es es':List (Int×List Int)}{T:List TypeId}
theorem rd_lit(w:World)(k:IntKind)(t:TypeId)(cs:Array Value)(l:List Int)(n b:Nat)(hcs:cs=(ints k l).toArray)(hn:l.length=n)(hb:w.heap.size=b):Rd (w.alloc (.cells cs t)) k (some ⟨b,0,none⟩) n n l:=by
 subst hcs hb hn;exact⟨rfl,Nat.le_refl _,fun _=>⟨_,_,rfl,by simp,Blk.range (t:=t) (heap_alloc_new _ _)⟩⟩
theorem within1_any(x m:Int)(p:Addr)(w:World)(hs:p.spot=none)(hc:w.cell? p=some (.int .i64 m)):Calls prog 200 #[.int .i64 x,.pointer (some p)] w fun r w'=>IsB r/\Bl w w':=by
 obtain⟨b,o,sp⟩:=p;have hs':sp=none:=hs;subst hs';go_enter func200,ntmps200
 by_cases h0:x<0
 · go_wp2_with fail;go_ret;exact⟨⟨_,rfl⟩,Below.refl _ _⟩
 go_wp2_with fail;go_ret;exact⟨⟨_,rfl⟩,Below.refl _ _⟩
theorem Rd.ntat{c:Nat}(h:Rd w k A n c l)(i:Nat)(hi:i<n):∃b o x0,A=some ⟨b,o,none⟩/\w.cell? ⟨b,o+i,none⟩=some (.int k x0):=by
 have hcap:=h.cap;have hlen:=h.len;obtain⟨b,o,e,hlt,hr⟩:=h.at_ o_;exact⟨b,o,_,e,hr i _ (ints_get (List.getElem?_eq_getElem o_))⟩
theorem idxInt_any(A:Option Addr)(n c:Nat)(l:List Int)(m:Int)(p:Addr)(w:World)(hr:Rd w .i64 A n c l)(hp:p.block<w.heap.size)(hs:p.spot=none)(hc:w.cell? p=some (.int .i64 m))(hn:n<2 ^ 60):Calls prog 214 #[.slice A n c,.func (.func 200) #[] #[.pointer (some p)]] w fun r w'=>(∃x,r=.returned (.int .i64 x))/\Bl w w':=by
 have HR:=hd_ hr;have HC:=hd_ hc;clear hr hc;go_enter func214,ntmps214
 go_wp2_with fail;go_loopw [8] (fun v wr=>∃i:Nat,v=.int .i64 i/\i<=n/\Hid (Bl w wr)) (fun v _=>n-(intOf v).toNat)
 case atStart=>exact⟨0,rfl,by omega,Below.refl _ _⟩
 case round=>
  obtain⟨i,rfl,hi,hb⟩:=hrel;by_cases hlt:i<n
  · obtain⟨b,o,x0,rfl,c0⟩:=(HR.out.below hb.out).ntat i hlt;have hcap:=HR.out.cap;go_wp2_with fail;refine(within1_any x0 m p _ hs ((hb.out.cell hp).trans HC.out)).mono ?_;rintro _ w4 ⟨⟨q,rfl⟩,hb4⟩;have Hb4:=tb_ hb hb4;clear hb4 c0
    cases q with
    | true=>
     go_wp2_with fail;go_ret;exact⟨⟨_,rfl⟩,Hb4.out⟩
    | false=>
     go_wp2_with fail;go_roundw;(case rel=>exact⟨i+1,by go_num,by omega,Hb4⟩);case measure=>simp[intOf];omega
  go_wp2_with fail;go_ret;exact⟨⟨_,rfl⟩,hb.out⟩
theorem hasInt_any(A:Option Addr)(n c:Nat)(l:List Int)(m:Int)(p:Addr)(w:World)(hr:Rd w .i64 A n c l)(hp:p.block<w.heap.size)(hs:p.spot=none)(hc:w.cell? p=some (.int .i64 m))(hn:n<2 ^ 60):Calls prog 199 #[.slice A n c,.func (.func 200) #[] #[.pointer (some p)]] w fun r w'=>IsB r/\Bl w w':=by
 go_enter func199,ntmps199
 go_wp2_with fail;refine(idxInt_any A n c l m p w hr hp hs hc hn).mono ?_;rintro _ w4 ⟨⟨q,rfl⟩,hb4⟩;go_wp2_with fail;go_ret;exact⟨⟨_,rfl⟩,hb4⟩
theorem within_any(m:Int)(A:Option Addr)(n c:Nat)(l:List Int)(w:World)(hr:Rd w .i64 A n c l)(hn:n<2 ^ 60):Calls prog 163 #[.int .i64 m,.slice A n c] w fun r w'=>IsB r/\Bl w w':=by
 have h1:Bl w (w.alloc (.cells #[.int .i64 m] 3)):=b0_;have HR:=hd_ (hr.below h1);have HB:=hd_ h1;clear hr h1;go_enter func163,ntmps163
 go_wp2_with fail;refine(hasInt_any A n c l m ⟨w.heap.size,0,none⟩ _ HR.out s_ rfl s_ hn).mono ?_;rintro _ w4 ⟨⟨q,rfl⟩,hb4⟩;have HB4:=tb_ HB hb4;clear hb4;go_wp2_with fail;go_ret;exact⟨⟨_,rfl⟩,HB4.out⟩
theorem isSig_any(e s:Int)(w:World):Calls prog 164 #[.agg #[.int .i64 e,.int .i64 s]] w fun r w'=>IsB r/\Bl w w':=by
 obtain⟨w1,hw1⟩:=ex_ ((w.alloc (.cells #[.int .i64 e,.int .i64 s] 116)).alloc (.cells #[.int .i64 e,.int .i64 s] 3));have HB:Hid (Bl w w1):=by rw[hw1];exact bal b0_
 have HR:Hid (Rd w1 .i64 (some ⟨w.heap.size+1,0,none⟩) 2 2 [e,s]):=by rw[hw1];exact rd_lit _ .i64 _ _ _ _ _ rfl rfl s_
 have HW:=hd_ hw1;clear hw1;go_enter func164,ntmps164
 go_wp2_with ((change Calls _ _ _ ((w.alloc (.cells #[.int .i64 e,.int .i64 s] 116)).alloc (.cells #[.int .i64 e,.int .i64 s] 3)) _);fail);rw[<-HW.out];refine(within_any _ _ 2 2 [e,s] _ HR.out dd).mono ?_;rintro _ w4 ⟨⟨q,rfl⟩,hb4⟩;have HB4:=tb_ HB hb4;clear hb4;go_wp2_with fail;go_ret;exact⟨⟨_,rfl⟩,HB4.out⟩
theorem wOp_any(a b c d e:Int)(w:World):Calls prog 166 #[opv a b c d e] w fun r w'=>IsB r/\Bl w w':=by
 unfold opv;obtain⟨w1,hw1⟩:=ex_ ((w.alloc (.cells #[.int .i64 a,.int .i64 b,.int .i64 c,.int .i64 d,.int .i64 e] 55)).alloc (.cells #[.int .i64 a,.int .i64 b,.int .i64 c,.int .i64 d,.int .i64 e] 3));have HB:Hid (Bl w w1):=by rw[hw1];exact bal b0_
 have HR:Hid (Rd w1 .i64 (some ⟨w.heap.size+1,0,none⟩) 5 5 [a,b,c,d,e]):=by rw[hw1];exact rd_lit _ .i64 _ _ _ _ _ rfl rfl s_
 have HW:=hd_ hw1;clear hw1;go_enter func166,ntmps166
 go_wp2_with ((change Calls _ _ _ ((w.alloc (.cells #[.int .i64 a,.int .i64 b,.int .i64 c,.int .i64 d,.int .i64 e] 55)).alloc (.cells #[.int .i64 a,.int .i64 b,.int .i64 c,.int .i64 d,.int .i64 e] 3)) _);fail);rw[<-HW.out];refine(within_any _ _ 5 5 [a,b,c,d,e] _ HR.out dd).mono ?_;rintro _ w4 ⟨⟨q,rfl⟩,hb4⟩;have HB4:=tb_ HB hb4;clear hb4;go_wp2_with fail;go_ret;exact⟨⟨_,rfl⟩,HB4.out⟩
theorem isBox_any(A:Option Addr)(n c:Nat)(w:World):Calls prog 170 #[.slice A n c] w fun r w'=>IsB r/\Bl w w':=by
 go_enter func170,ntmps170
 go_wp2;go_ret;exact⟨⟨_,rfl⟩,Below.refl _ _⟩
def voteV(a e s:Int):Value:=.agg #[.int .i64 a,.int .i64 e,.int .i64 s]
theorem isVote_any(a e s:Int)(w:World):Calls prog 168 #[voteV a e s] w fun r w'=>IsB r/\Bl w w':=by
 unfold voteV;obtain⟨w1,hw1⟩:=ex_ ((w.alloc (.cells #[.int .i64 a,.int .i64 e,.int .i64 s] 118)).alloc (.cells #[.int .i64 a] 3));have HB:Hid (Bl w w1):=by rw[hw1];exact bal b0_
 have HL:Hid (w.heap.size<w1.heap.size):=by rw[hw1];show _<_;simp;omega
 have c1:w1.cell? ⟨w.heap.size,1,none⟩=some (.int .i64 e):=by rw[hw1];simp
 have c2:w1.cell? ⟨w.heap.size,2,none⟩=some (.int .i64 s):=by rw[hw1];simp
 have HR:Hid (Rd w1 .i64 (some ⟨w.heap.size+1,0,none⟩) 1 1 [a]):=by rw[hw1];exact rd_lit _ .i64 _ _ _ _ _ rfl rfl s_
 have HW:=hd_ hw1;clear hw1;go_enter func168,ntmps168
 go_wp2_with ((change Calls _ _ _ ((w.alloc (.cells #[.int .i64 a,.int .i64 e,.int .i64 s] 118)).alloc (.cells #[.int .i64 a] 3)) _);fail);rw[<-HW.out];refine(within_any _ _ 1 1 [a] _ HR.out dd).mono ?_;rintro _ w4 ⟨⟨q,rfl⟩,hb4⟩;have HB4:=tb_ HB hb4;have d1:=(hb4.cell (p:=⟨w.heap.size,1,none⟩) HL.out).trans c1;have d2:=(hb4.cell (p:=⟨w.heap.size,2,none⟩) HL.out).trans c2;clear hb4 c1 c2
 cases q with
 | false=>
  go_wp2_with fail;go_ret;exact⟨⟨_,rfl⟩,HB4.out⟩
 | true=>
  go_wp2_with fail;refine(isSig_any e s _).mono ?_;rintro _ w5 ⟨⟨q,rfl⟩,hb5⟩;have HB5:=tb_ HB4 hb5;clear hb5 d1 d2;go_wp2_with fail;go_ret;exact⟨⟨_,rfl⟩,HB5.out⟩
theorem notOp_any(a b' c d e:Int)(p:Addr)(w:World)(hp:p.block<w.heap.size)(hs:p.spot=none)(hc:w.cell? p=some (.func (.func 166) #[] #[])):Calls prog 201 #[opv a b' c d e,.pointer (some p)] w fun r w'=>IsB r/\Bl w w':=by
 unfold opv;obtain⟨b,o,sp⟩:=p;have hs':sp=none:=hs;subst hs';have HB:Hid (Bl w (w.alloc (.cells #[.int .i64 a,.int .i64 b',.int .i64 c,.int .i64 d,.int .i64 e] 55))):=b0_;have hc2:(w.alloc (.cells #[.int .i64 a,.int .i64 b',.int .i64 c,.int .i64 d,.int .i64 e] 55)).cell? ⟨b,o,none⟩=some (.func (.func 166) #[] #[]):=(HB.out.cell hp).trans hc;clear hc;go_enter func201,ntmps201
 go_wp2_with fail;refine(wOp_any a b' c d e _).mono ?_;rintro _ w4 ⟨⟨q,rfl⟩,hb4⟩;have HB4:=tb_ HB hb4;clear hb4;go_wp2_with fail;go_ret;exact⟨⟨_,rfl⟩,HB4.out⟩
theorem notVote_any(a e s:Int)(p:Addr)(w:World)(hp:p.block<w.heap.size)(hs:p.spot=none)(hc:w.cell? p=some (.func (.func 168) #[] #[])):Calls prog 203 #[voteV a e s,.pointer (some p)] w fun r w'=>IsB r/\Bl w w':=by
 unfold voteV;obtain⟨b,o,sp⟩:=p;have hs':sp=none:=hs;subst hs';have HB:Hid (Bl w (w.alloc (.cells #[.int .i64 a,.int .i64 e,.int .i64 s] 118))):=b0_;have hc2:(w.alloc (.cells #[.int .i64 a,.int .i64 e,.int .i64 s] 118)).cell? ⟨b,o,none⟩=some (.func (.func 168) #[] #[]):=(HB.out.cell hp).trans hc;clear hc;go_enter func203,ntmps203
 go_wp2_with fail;refine(isVote_any a e s _).mono ?_;rintro _ w4 ⟨⟨q,rfl⟩,hb4⟩;have HB4:=tb_ HB hb4;clear hb4;go_wp2_with fail;go_ret;exact⟨⟨_,rfl⟩,HB4.out⟩
theorem notBox_any(A:Option Addr)(n c:Nat)(p:Addr)(w:World)(hp:p.block<w.heap.size)(hs:p.spot=none)(hc:w.cell? p=some (.func (.func 170) #[] #[])):Calls prog 205 #[.slice A n c,.pointer (some p)] w fun r w'=>IsB r/\Bl w w':=by
 obtain⟨b,o,sp⟩:=p;have hs':sp=none:=hs;subst hs';have HB:Hid (Bl w w):=Below.refl _ _;go_enter func205,ntmps205
 go_wp2_with fail;refine(isBox_any A n c _).mono ?_;rintro _ w4 ⟨⟨q,rfl⟩,hb4⟩;have HB4:=tb_ HB hb4;clear hb4;go_wp2_with fail;go_ret;exact⟨⟨_,rfl⟩,HB4.out⟩
def VoteR(w:World)(A:Option Addr)(n c:Nat)(l:List Int):Prop:=Rg w 3 A n c (ints .i64 l)
theorem VoteR.below{c:Nat}(h:VoteR w A n c l)(hb:Bl w w'):VoteR w' A n c l:=Rg.below h hb
theorem VoteR.at{c:Nat}(h:VoteR w A n c l)(i:Nat)(hi:i<n):∃b o x0 x1 x2,A=some ⟨b,o,none⟩/\b<w.heap.size/\w.cell? ⟨b,o+i*3,none⟩=some (.int .i64 x0)/\w.cell? ⟨b,o+i*3+1,none⟩=some (.int .i64 x1)/\w.cell? ⟨b,o+i*3+2,none⟩=some (.int .i64 x2):=by
 have hcap:=h.cap;have hlen:=h.len;rw[ints_len]at hlen;obtain⟨b,o,e,hlt,hr⟩:=h.at_ o_;have hc:∀j,j<3->∃x,w.cell? ⟨b,o+(i*3+j),none⟩=some (.int .i64 x):=fun j hj=>
  ⟨_,hr (i*3+j) _ (ints_get (List.getElem?_eq_getElem o_))⟩
 obtain⟨x0,h0⟩:=hc 0 o_;obtain⟨x1,h1⟩:=hc 1 o_;obtain⟨x2,h2⟩:=hc 2 o_;exact⟨b,o,x0,x1,x2,e,hlt,h0,h1,h2⟩
theorem idxVote_any(A:Option Addr)(n c:Nat)(l:List Int)(p:Addr)(w:World)(hr:VoteR w A n c l)(hp:p.block<w.heap.size)(hs:p.spot=none)(hc:w.cell? p=some (.func (.func 168) #[] #[]))(hn:n<2 ^ 60):Calls prog 215 #[.slice A n c,.func (.func 203) #[] #[.pointer (some p)]] w fun r w'=>(∃x,r=.returned (.int .i64 x))/\Bl w w':=by
 have HR:=hd_ hr;have HC:=hd_ hc;clear hr hc;go_enter func215,ntmps215
 go_wp2_with fail;go_loopw [8] (fun v wr=>∃i:Nat,v=.int .i64 i/\i<=n/\Hid (Bl w wr)) (fun v _=>n-(intOf v).toNat)
 case atStart=>exact⟨0,rfl,by omega,Below.refl _ _⟩
 case round=>
  obtain⟨i,rfl,hi,hb⟩:=hrel;by_cases hlt:i<n
  · obtain⟨b,o,x0,x1,x2,rfl,_,c0,c1,c2⟩:=(HR.out.below hb.out).at i hlt;have hcap:=HR.out.cap;go_wp2_with fail;refine(notVote_any x0 x1 x2 p _ (Nat.lt_of_lt_of_le hp hb.out.size) hs ((hb.out.cell hp).trans HC.out)).mono ?_;rintro _ w4 ⟨⟨q,rfl⟩,hb4⟩;have Hb4:=tb_ hb hb4;clear hb4 c0 c1 c2
    cases q with
    | true=>
     go_wp2_with fail;go_ret;exact⟨⟨_,rfl⟩,Hb4.out⟩
    | false=>
     go_wp2_with fail;go_roundw;(case rel=>exact⟨i+1,by go_num,by omega,Hb4⟩);case measure=>simp[intOf];omega
  go_wp2_with fail;go_ret;exact⟨⟨_,rfl⟩,hb.out⟩
theorem hasVote_any(A:Option Addr)(n c:Nat)(l:List Int)(p:Addr)(w:World)(hr:VoteR w A n c l)(hp:p.block<w.heap.size)(hs:p.spot=none)(hc:w.cell? p=some (.func (.func 168) #[] #[]))(hn:n<2 ^ 60):Calls prog 202 #[.slice A n c,.func (.func 203) #[] #[.pointer (some p)]] w fun r w'=>IsB r/\Bl w w':=by
 go_enter func202,ntmps202
 go_wp2_with fail;refine(idxVote_any A n c l p w hr hp hs hc hn).mono ?_;rintro _ w4 ⟨⟨q,rfl⟩,hb4⟩;go_wp2_with fail;go_ret;exact⟨⟨_,rfl⟩,hb4⟩
theorem allVote_any(A:Option Addr)(n c:Nat)(l:List Int)(w:World)(hr:VoteR w A n c l)(hn:n<2 ^ 60):Calls prog 167 #[.slice A n c,.func (.func 168) #[] #[]] w fun r w'=>IsB r/\Bl w w':=by
 have h1:Bl w (w.alloc (.cells #[.func (.func 168) #[] #[]] 241)):=b0_;have HR:=hd_ (hr.below h1);have HB:=hd_ h1;clear hr h1;go_enter func167,ntmps167
 go_wp2_with fail;refine(hasVote_any A n c l ⟨w.heap.size,0,none⟩ _ HR.out s_ rfl s_ hn).mono ?_;rintro _ w4 ⟨⟨q,rfl⟩,hb4⟩;have HB4:=tb_ HB hb4;clear hb4;go_wp2_with fail;go_ret;exact⟨⟨_,rfl⟩,HB4.out⟩
theorem RdL.nat{c:Nat}(h:RdL w A n c B)(i:Nat)(hi:i<n):∃b o A' n' c',A=some ⟨b,o,none⟩/\w.cell? ⟨b,o+i,none⟩=some (.slice A' n' c'):=by
 have hcap:=h.cap;obtain⟨b,o,e,hlt,hr⟩:=h.at_ o_;obtain⟨A',n',c',l',h1,_⟩:=hr i hi;exact⟨b,o,A',n',c',e,h1⟩
theorem idxBox_any(A:Option Addr)(n c:Nat)(B:Nat)(p:Addr)(w:World)(hr:RdL w A n c B)(hp:p.block<w.heap.size)(hs:p.spot=none)(hc:w.cell? p=some (.func (.func 170) #[] #[]))(hn:n<2 ^ 60):Calls prog 216 #[.slice A n c,.func (.func 205) #[] #[.pointer (some p)]] w fun r w'=>(∃x,r=.returned (.int .i64 x))/\Bl w w':=by
 have HR:=hd_ hr;have HC:=hd_ hc;clear hr hc;go_enter func216,ntmps216
 go_wp2_with fail;go_loopw [8] (fun v wr=>∃i:Nat,v=.int .i64 i/\i<=n/\Hid (Bl w wr)) (fun v _=>n-(intOf v).toNat)
 case atStart=>exact⟨0,rfl,by omega,Below.refl _ _⟩
 case round=>
  obtain⟨i,rfl,hi,hb⟩:=hrel;by_cases hlt:i<n
  · obtain⟨b,o,A',n',c',rfl,c0⟩:=(HR.out.below hb.out).nat i hlt;have hcap:=HR.out.cap;go_wp2_with fail;refine(notBox_any A' n' c' p _ (Nat.lt_of_lt_of_le hp hb.out.size) hs ((hb.out.cell hp).trans HC.out)).mono ?_;rintro _ w4 ⟨⟨q,rfl⟩,hb4⟩;have Hb4:=tb_ hb hb4;clear hb4 c0
    cases q with
    | true=>
     go_wp2_with fail;go_ret;exact⟨⟨_,rfl⟩,Hb4.out⟩
    | false=>
     go_wp2_with fail;go_roundw;(case rel=>exact⟨i+1,by go_num,by omega,Hb4⟩);case measure=>simp[intOf];omega
  go_wp2_with fail;go_ret;exact⟨⟨_,rfl⟩,hb.out⟩
theorem hasBox_any(A:Option Addr)(n c:Nat)(B:Nat)(p:Addr)(w:World)(hr:RdL w A n c B)(hp:p.block<w.heap.size)(hs:p.spot=none)(hc:w.cell? p=some (.func (.func 170) #[] #[]))(hn:n<2 ^ 60):Calls prog 204 #[.slice A n c,.func (.func 205) #[] #[.pointer (some p)]] w fun r w'=>IsB r/\Bl w w':=by
 go_enter func204,ntmps204
 go_wp2_with fail;refine(idxBox_any A n c B p w hr hp hs hc hn).mono ?_;rintro _ w4 ⟨⟨q,rfl⟩,hb4⟩;go_wp2_with fail;go_ret;exact⟨⟨_,rfl⟩,hb4⟩
theorem allBox_any(A:Option Addr)(n c:Nat)(B:Nat)(w:World)(hr:RdL w A n c B)(hn:n<2 ^ 60):Calls prog 169 #[.slice A n c,.func (.func 170) #[] #[]] w fun r w'=>IsB r/\Bl w w':=by
 have h1:Bl w (w.alloc (.cells #[.func (.func 170) #[] #[]] 243)):=b0_;have HR:=hd_ (hr.below h1);have HB:=hd_ h1;clear hr h1;go_enter func169,ntmps169
 go_wp2_with fail;refine(hasBox_any A n c B ⟨w.heap.size,0,none⟩ _ HR.out s_ rfl s_ hn).mono ?_;rintro _ w4 ⟨⟨q,rfl⟩,hb4⟩;have HB4:=tb_ HB hb4;clear hb4;go_wp2_with fail;go_ret;exact⟨⟨_,rfl⟩,HB4.out⟩
theorem idxOps2_any(A:Option Addr)(n c:Nat)(l:List Int)(p:Addr)(w:World)(hr:OpsR w A n c l)(hp:p.block<w.heap.size)(hs:p.spot=none)(hc:w.cell? p=some (.func (.func 166) #[] #[]))(hn:n<2 ^ 60):Calls prog 190 #[.slice A n c,.func (.func 201) #[] #[.pointer (some p)]] w fun r w'=>(∃x,r=.returned (.int .i64 x))/\Bl w w':=by
 have HR:=hd_ hr;have HC:=hd_ hc;clear hr hc;go_enter func190,ntmps190
 go_wp2_with fail;go_loopw [8] (fun v wr=>∃i:Nat,v=.int .i64 i/\i<=n/\Hid (Bl w wr)) (fun v _=>n-(intOf v).toNat)
 case atStart=>exact⟨0,rfl,by omega,Below.refl _ _⟩
 case round=>
  obtain⟨i,rfl,hi,hb⟩:=hrel;by_cases hlt:i<n
  · obtain⟨b,o,x0,x1,x2,x3,x4,rfl,_,c0,c1,c2,c3,c4⟩:=(HR.out.below hb.out).at i hlt;have hcap:=HR.out.cap;go_wp2_with fail;refine(notOp_any x0 x1 x2 x3 x4 p _ (Nat.lt_of_lt_of_le hp hb.out.size) hs ((hb.out.cell hp).trans HC.out)).mono ?_;rintro _ w4 ⟨⟨q,rfl⟩,hb4⟩;have Hb4:=tb_ hb hb4;clear hb4 c0 c1 c2 c3 c4
    cases q with
    | true=>
     go_wp2_with fail;go_ret;exact⟨⟨_,rfl⟩,Hb4.out⟩
    | false=>
     go_wp2_with fail;go_roundw;(case rel=>exact⟨i+1,by go_num,by omega,Hb4⟩);case measure=>simp[intOf];omega
  go_wp2_with fail;go_ret;exact⟨⟨_,rfl⟩,hb.out⟩
theorem hasOps2_any(A:Option Addr)(n c:Nat)(l:List Int)(p:Addr)(w:World)(hr:OpsR w A n c l)(hp:p.block<w.heap.size)(hs:p.spot=none)(hc:w.cell? p=some (.func (.func 166) #[] #[]))(hn:n<2 ^ 60):Calls prog 148 #[.slice A n c,.func (.func 201) #[] #[.pointer (some p)]] w fun r w'=>IsB r/\Bl w w':=by
 go_enter func148,ntmps148
 go_wp2_with fail;refine(idxOps2_any A n c l p w hr hp hs hc hn).mono ?_;rintro _ w4 ⟨⟨q,rfl⟩,hb4⟩;go_wp2_with fail;go_ret;exact⟨⟨_,rfl⟩,hb4⟩
theorem allOps_any(A:Option Addr)(n c:Nat)(l:List Int)(w:World)(hr:OpsR w A n c l)(hn:n<2 ^ 60):Calls prog 165 #[.slice A n c,.func (.func 166) #[] #[]] w fun r w'=>IsB r/\Bl w w':=by
 have h1:Bl w (w.alloc (.cells #[.func (.func 166) #[] #[]] 220)):=b0_;have HR:=hd_ (hr.below h1);have HB:=hd_ h1;clear hr h1;go_enter func165,ntmps165
 go_wp2_with fail;refine(hasOps2_any A n c l ⟨w.heap.size,0,none⟩ _ HR.out s_ rfl s_ hn).mono ?_;rintro _ w4 ⟨⟨q,rfl⟩,hb4⟩;have HB4:=tb_ HB hb4;clear hb4;go_wp2_with fail;go_ret;exact⟨⟨_,rfl⟩,HB4.out⟩
end Go.Proofs.YtppjnahcnofokaaGreat.T
namespace Go.Proofs.YtppjnahcnofokaaGreat.T
open Go.RowKit Go.Proofs.YtppjnahcnofokaaGreatW.PrintLast
open Go.Proofs.Tryz
variable{k:IntKind}{a:Act}{b i n B base m fuel D B':Nat}{l ch:List Int}{w w' w1 w2:World}{t:TypeId}{P:Program}{cs xs vs l3:List Value}{A A':Option Addr}{o oi:Oper}{e s f st fl:Int}{ops:Array Oper}{rest l0:List Oper}{v:Value}{r:Option Nat}{rs rs2:List (Option Addr×Nat×Nat×List Int)}{E:Prop}{ad ai go:List Bool}{N:Act->Prop}{place:Nat->Option (Nat×Nat)}{bad:Bool}{es es':List (Int×List Int)}{T:List TypeId}
theorem info118:(prog.info? 118).map (·.size)=some 3:=by kernel_rfl
theorem OpsR.key{c:Nat}{g:Nat}(h:OpsR w A n c l)(hk:KeyAt w g s)(hc:w.grownBy w' (some g)):OpsR w' A n c l:=by
 refine⟨h.len,h.cap,fun h0=>?_⟩;obtain⟨b,o,e,hlt,hr⟩:=h.at_ h0;refine⟨b,o,e,Nat.lt_of_lt_of_le hlt hc.size,fun j v hv=>?_⟩;by_cases hb:b=g
 · exfalso;subst hb;obtain⟨_,d,p,m,u,hg,_⟩:=hk;(have hj:j<n*5:=by have h1:=(List.getElem?_eq_some_iff.1 hv).1;have h2:=h.len;omega);have hlen:=h.len;rw[ints_len]at hlen;(have hx:∀q,q<5->∃x,w.cell? ⟨b,o+(j / 5*5+q),none⟩=some (.int .i64 x):=fun q hq=>by(have hq2:j / 5*5+q<n*5:=by omega);exact⟨_,hr _ _ (ints_get (List.getElem?_eq_getElem o_))⟩);generalize j / 5*5=J at hx;have hcell:∀q,w.cell? ⟨b,q,none⟩=(KeyC s d p m u)[q]?:=fun q=>cell_of_row _ _ _ _ _ _ hg;(have hlast:o+J+4<7:=by obtain⟨x,hx4⟩:=hx 4 o_;rw[hcell]at hx4;have:=(Array.getElem?_eq_some_iff.1 hx4).1;simp[KeyC]at this;omega);have h1:=hx 0 o_;have h2:=hx 1 o_;simp only[hcell]at h1 h2;(have hcases:o+J=0\/o+J=1\/o+J=2:=by omega);obtain⟨x1,h1⟩:=h1;obtain⟨x2,h2⟩:=h2;rw[<-Nat.add_assoc]at h1 h2;rcases hcases with hq|hq|hq<;>rw[hq]at h1 h2<;>simp[KeyC]at h1 h2
 have:=hr j v hv;rw[<-this];exact World.cell?_of_block (hc.block b hlt (by simpa using hb))
structure AvS (w w':World) (e k:Int) (t ch:List Int) (ad:List Bool) (g:Nat) (s:Int):Prop where
 view:Cel w' w.heap.size 45 (vw e t ad k ch)
 res:Row w' (w.heap.size+1) .i64 118 3
 key:KeyAt w' g s
 old:g<w.heap.size
 frame:ChgK g w w'
theorem KeyAt.gr{g:Nat}{row:Option Nat}(h:KeyAt w g s)(hg:w.grownBy w' row)(hne:some g≠row):KeyAt w' g s:=by
 have hl:=h.lt;obtain⟨hs,d,p,m,u,h,hd⟩:=h;exact⟨hs,d,p,m,u,(hg.block g hl hne).trans h,hd⟩
theorem ChgK.grn{g:Nat}{w'':World}(h:ChgK g w w')(hg:w'.grownBy w'' (some b))(hb:w.heap.size<=b):ChgK g w w'':=
 ⟨hg.os.trans h.os,hg.tape.trans h.tape,hg.output.trans h.output,Nat.le_trans h.size hg.size,fun k hk hne=>(hg.block k (Nat.lt_of_lt_of_le hk h.size) (fun e=>by cases e;omega)).trans (h.block k hk hne)⟩
theorem AvS.gr{k:Int}{t:List Int}{g:Nat}(h:AvS w w1 e k t ch ad g s)(hg:w1.grownBy w2 (some b))(hb:w.heap.size+2<=b):AvS w w2 e k t ch ad g s:=
 ⟨h.view.grown hg s1_,h.res.grown hg s1_,h.key.gr hg (by have:=h.old;simp;omega),h.old,h.frame.grn hg o_⟩
theorem AvS.bel{k:Int}{t:List Int}{g:Nat}(h:AvS w w1 e k t ch ad g s)(hb:Bl w1 w2):AvS w w2 e k t ch ad g s:=
 ⟨h.view.below hb h.view.lt,h.res.below hb h.res.lt,h.key.below hb h.key.lt,h.old,h.frame.trans (ChgK.of_below hb)⟩
theorem AvS.kc{k:Int}{t:List Int}{g:Nat}(h:AvS w w1 e k t ch ad g s)(hk:KeyAt w2 g s)(hc:ChgK g w1 w2):AvS w w2 e k t ch ad g s:=
 ⟨h.view.grown hc.gr (by have:=h.old;simp;omega),h.res.grown hc.gr (by have:=h.old;simp;omega),hk,h.old,h.frame.trans hc⟩
theorem AvS.drew{k:Int}{t:List Int}{g:Nat}(h:AvS w w1 e k t ch ad g s):AvS w w1.drew e k t ch ad g s:=
 h.bel (Below.refl _ _).drew
def ApvR(r:Ending):Prop:=∃a E S x,r=.returned (.tuple #[voteV a E S,.int .i64 x])/\(x=0->0<=a/\a<8)
theorem apvEnd{k:Int}{t:List Int}{g:Nat}(h:AvS w w1 e k t ch ad g s)(hg:w1.grownBy w2 (some (w.heap.size+1))):KeyAt w2 g s/\ChgK g w w2:=
 ⟨h.key.gr hg (by have:=h.old;simp;omega),h.frame.grn hg o_⟩
theorem approve_any(e k f x:Int)(t ch:List Int)(ad:List Bool)(A:Option Addr)(n c:Nat)(l:List Int)(g:Nat)(s:Int)(w:World)(h:VwOk t ad ch)(hr:OpsR w A n c l)(hn:n<=1000)(hk:KeyAt w g s): Calls prog 61 #[.agg (vw e t ad k ch).toArray,.int .i64 x,.pointer (some ⟨g,0,none⟩),.int .i64 f,.slice A n c] w fun r w'=>ApvR r/\KeyAt w' g s/\ChgK g w w':=by
 obtain⟨w1,hW⟩:=ex_ (((w.alloc (.cells (vw e t ad k ch).toArray 45)).alloc (.cells #[.int .i64 0,.int .i64 0,.int .i64 0] 118)));have HS:Hid (AvS w w1 e k t ch ad g s):=by rw[hW];exact⟨(Cel.new _ rfl rfl).alloc _,Row.new [0,0,0] _ rfl s_,(hk.below b0_ hk.lt).below b0_ (by have:=hk.lt;simp;omega),hk.lt,ChgK.of_below (bal b0_)⟩
 have HR:Hid (OpsR w1 A n c l):=by rw[hW];exact hr.below (bal b0_)
 have hsz:w.heap.size+2<=w1.heap.size:=by rw[hW];simp
 have HV:=hd_ h;have HW:=hd_ hW;clear hW h hr hk;go_enter func61,ntmps61
 by_cases hn0:n=0
 · subst hn0;go_wp2_with (change wpList _ _ _ _ _ ((w.alloc (.cells (vw e t ad k ch).toArray 45)).alloc (.cells #[.int .i64 0,.int .i64 0,.int .i64 0] 118));rw[<-HW.out];refine store_blk rfl 118 (.tmp 10) (.tmp 20) rr (w.heap.size+1) .i64 [0,0,0] rr rr HS.out.res rfl info118 ?_;intro w10 hB10 hg10);have hload:=hB10.loads underlying118 rfl info118;refine bodyPost_ret (v:=.tuple #[voteV 0 0 0,.int .i64 1]) (by simp[results,results61,asAddr,Act.put,hload,voteV,ints]) rfl ⟨⟨0,0,0,_,rfl,by omega⟩,apvEnd HS.out hg10⟩
 · go_wp2_with (change wpList _ _ _ _ _ ((w.alloc (.cells (vw e t ad k ch).toArray 45)).alloc (.cells #[.int .i64 0,.int .i64 0,.int .i64 0] 118));rw[<-HW.out];refine wpList_load_mid rfl 45 (.tmp 5) rr w.heap.size 0 rr (vw e t ad k ch) _ HS.out.view.all underlying45 rfl (vw_hi HV.out) ?_);refine(apply_any e k f t ch ad A n c l w1 HV.out HR.out o_).mono ?_;rintro _ w5 ⟨⟨x0,e2,t2,ad2,k2,ch2,ai,go,rfl,hv2,hai,hgo,-⟩,hb5⟩;have HS5:=hd_ (HS.out.bel hb5);have HR5:=hd_ (HR.out.below hb5);have hsz5:w.heap.size+2<=w5.heap.size:=Nat.le_trans hsz hb5.size;have HV2:=hd_ hv2;clear hb5 hv2;by_cases hx0:x0=0
   · subst hx0;go_wp2_with (first|(refine wpList_load_mid rfl 45 (.tmp 5) rr w.heap.size 0 rr (vw e t ad k ch) _ HS6.out.view.all underlying45 rfl (vw_hi HV.out) ?_)|(change wpList _ _ _ _ _ (((w5.alloc (.cells zvw.toArray 45)).alloc (.cells (bools zb).toArray 41)).alloc (.cells (bools zb).toArray 41));refine stores3 rfl rfl rfl rfl rfl rfl (.tmp 12) (.tmp 26) (.tmp 13) (.tmp 27) (.tmp 14) (.tmp 28) rr rr rr rr rr rr rr rr rr HV2.out hai hgo ?_;intro w6 hA6 hB6 hC6 hb6;have HS6:=hd_ (HS5.out.bel hb6);have HR6:=hd_ (HR5.out.below hb6);clear hA6 hB6 hC6));refine(isAdmin_any e k x t ch ad _ HV.out).mono ?_;rintro _ w7 ⟨⟨q,rfl,hq⟩,hb7⟩;have HS7:=hd_ (HS6.out.bel hb7);have HR7:=hd_ (HR6.out.below hb7);have hsz7:w.heap.size+2<=w7.heap.size:=Nat.le_trans hsz5 (Nat.le_trans hb6.size hb7.size);clear hb7 hb6
     cases q with
     | false=>
      go_wp2_with (refine store_blk rfl 118 (.tmp 10) (.tmp 39) rr (w.heap.size+1) .i64 [0,0,0] rr rr HS7.out.res rfl info118 ?_;intro w10 hB10 hg10);have hload:=hB10.loads underlying118 rfl info118;refine bodyPost_ret (v:=.tuple #[voteV 0 0 0,.int .i64 6]) (by simp[results,results61,asAddr,Act.put,hload,voteV,ints]) rfl ⟨⟨0,0,0,_,rfl,by omega⟩,apvEnd HS7.out hg10⟩
     | true=>
      obtain⟨hm0,hm8⟩:=hq rfl
      obtain⟨m,rfl⟩:=Int.eq_ofNat_of_zero_le hm0
      have hm:m<8:=by omega
      clear hq
      obtain⟨L,hL⟩:∃L,t.getD (m*2) 0=L:=⟨_,rfl⟩
      have HL:=hd_ hL
      clear hL
      go_wp2_with fail
      refine pr_ 0 10 (bt 10 0) fun w1d hw1d=>?_
      refine mG ?_
      have hH:w1d.cell? ⟨w.heap.size,1+m*2,none⟩=some (.int .i64 L)/\Hid (AvS w w1d e k t ch ad g s):=by
       rw[<-hw1d];exact⟨(HS7.out.view.cell _).trans ((vw_tree HV.out _ o_).trans (by rw[HL.out])),HS7.out.drew⟩
      have HR8:Hid (OpsR w1d A n c l):=by rw[<-hw1d];exact HR7.out.below (Below.refl _ _).drew
      have hsz8:w.heap.size+2<=w1d.heap.size:=by rw[<-hw1d];exact hsz7
      clear hw1d
      refine wpAny_of_last (S:=fun w'=>w'.cell? ⟨w.heap.size,1+m*2,none⟩=some (.int .i64 L)/\Hid (AvS w w' e k t ch ad g s)/\Hid (OpsR w' A n c l)/\w.heap.size+2<=w'.heap.size) (ds:=[8,9]) _ _ _ _ ?_
      have hH:=And.intro hH.1 (And.intro hH.2 (And.intro HR8 hsz8))
      refine ts_ 0 1 9 (bt 10 1) hH ?_
      refine mT4 ?_
      refine ts_ 2 6 3 (bt 10 253) hH ?_
      refine mT4 ?_
      refine one_ (i:=1) (N:=some 42) (bt 10 255) rfl rfl kk dd (fun K hK=>?_)
      refine goes_ func50 kk rfl #[.pointer (some ⟨g,0,none⟩)] rr rfl rfl mL ?_
      refine(public_any g s _ hH.2.1.out.key).mono ?_
      rintro _ w9 ⟨rfl,hk9,hc9⟩
      refine⟨_,rfl,?_⟩
      refine hK.out _ _ ⟨((hH.2.1.out.kc hk9 hc9).view.cell _).trans ((vw_tree HV.out _ o_).trans (by rw[HL.out])),hH.2.1.out.kc hk9 hc9,OpsR.key hH.2.2.1.out hH.2.1.out.key hc9.gr,Nat.le_trans hH.2.2.2 hc9.size⟩ (fun hH=>?_)
      clear hK K hk9 hc9
      refine mN ?_
      refine tl_ 8 ?_
      refine mF ?_
      by_cases hpl:powF 4 s=L
      · subst hpl;have HS9:=hH.2.1;have HR9:=hH.2.2.1;have hsz9:=hH.2.2.2;go_wp2_with (refine wpList_load_mid rfl 45 (.tmp 5) rr w.heap.size 0 rr (vw e t ad k ch) _ hH.2.1.out.view.all underlying45 rfl (vw_hi HV.out) ?_);refine(paper_any e k f t ch ad A n c l _ HV.out HR9.out hn).mono ?_;rintro _ wa ⟨⟨lh,hlh,rfl⟩,hba⟩;have HSa:=hd_ (HS9.out.bel hba);have hsza:w.heap.size+2<=wa.heap.size:=Nat.le_trans hsz9 hba.size;have HSb:=hd_ (HSa.out.bel (bal (o:=.cells (ints .u8 zl).toArray 43) (Below.refl _ _)));have HZ:Hid (Row (wa.alloc (.cells (ints .u8 zl).toArray 43)) wa.heap.size .u8 43 32):=Row.new zl _ rfl rfl;have HLh:=hd_ hlh;clear hba hlh
        go_wp2_with (refine store_blk rfl 43 (.tmp 16) (.tmp 54) rr wa.heap.size .u8 lh rr rr HZ.out HLh.out (by show _=_;rw[HLh.out];exact info43) ?_
                     intro w10 hB10 hg10
                     have HSc:Hid (AvS w w10 e k (t) ch ad g s):=HSb.out.gr hg10 hsza
                     have HH:=hd_ hB10
                     clear hB10 hg10)
        refine(sign_any g s _ 32 32 lh w10 HSc.out.key (rd_blk HH.out HLh.out) dd).mono ?_;rintro _ w11 ⟨⟨E,S,rfl⟩,hk11,hc11⟩;have HSd:=hd_ (HSc.out.kc hk11 hc11);clear hk11 hc11;go_wp2_with (refine store_blk rfl 118 (.tmp 10) (.tmp 59) rr (w.heap.size+1) .i64 [m,E,S] rr rr HSd.out.res rfl info118 ?_;intro w12 hB12 hg12);have hload:=hB12.loads underlying118 rfl info118;refine bodyPost_ret (v:=.tuple #[voteV m E S,.int .i64 0]) (by simp[results,results61,asAddr,Act.put,hload,voteV,ints]) rfl ⟨⟨m,E,S,_,rfl,fun _=>⟨by omega,by omega⟩⟩,apvEnd HSd.out hg12⟩
      · have HS9:=hH.2.1;go_wp2_with (refine store_blk rfl 118 (.tmp 10) (.tmp 50) rr (w.heap.size+1) .i64 [0,0,0] rr rr HS9.out.res rfl info118 ?_;intro w10 hB10 hg10);have hload:=hB10.loads underlying118 rfl info118;refine bodyPost_ret (v:=.tuple #[voteV 0 0 0,.int .i64 10]) (by simp[results,results61,asAddr,Act.put,hload,voteV,ints]) rfl ⟨⟨0,0,0,_,rfl,by omega⟩,apvEnd HS9.out hg10⟩
   go_wp2_with (first|(refine store_blk rfl 118 (.tmp 10) (.tmp 32) rr (w.heap.size+1) .i64 [0,0,0] rr rr HS6.out.res rfl info118 ?_;intro w10 hB10 hg10)|(change wpList _ _ _ _ _ (((w5.alloc (.cells zvw.toArray 45)).alloc (.cells (bools zb).toArray 41)).alloc (.cells (bools zb).toArray 41));refine stores3 rfl rfl rfl rfl rfl rfl (.tmp 12) (.tmp 26) (.tmp 13) (.tmp 27) (.tmp 14) (.tmp 28) rr rr rr rr rr rr rr rr rr HV2.out hai hgo ?_;intro w6 hA6 hB6 hC6 hb6;have HS6:=hd_ (HS5.out.bel hb6);have HR6:=hd_ (HR5.out.below hb6);clear hA6 hB6 hC6));have hload:=hB10.loads underlying118 rfl info118;refine bodyPost_ret (v:=.tuple #[voteV 0 0 0,.int .i64 x0]) (by simp[results,results61,asAddr,Act.put,hload,voteV,ints]) rfl ⟨⟨0,0,0,_,rfl,fun h=>absurd h hx0⟩,apvEnd HS6.out hg10⟩
end Go.Proofs.YtppjnahcnofokaaGreat.T
namespace Go.Proofs.YtppjnahcnofokaaGreat.T
open Go.RowKit Go.Proofs.YtppjnahcnofokaaGreatW.PrintLast
open Go.Proofs.Tryz
variable{k:IntKind}{a:Act}{b i n B base m fuel D B':Nat}{l ch:List Int}{w w' w1 w2:World}{t:TypeId}{P:Program}{cs xs vs l3:List Value}{A A':Option Addr}{o oi:Oper}{e s f st fl:Int}{ops:Array Oper}{rest l0:List Oper}{v:Value}{r:Option Nat}{rs rs2:List (Option Addr×Nat×Nat×List Int)}{E:Prop}{ad ai go:List Bool}{N:Act->Prop}{place:Nat->Option (Nat×Nat)}{bad:Bool}{es es':List (Int×List Int)}{T:List TypeId}
def ToNumR(r:Ending):Prop:=∃x ok,r=.returned (.tuple #[.int .i64 x,.bool ok])/\0<=x
theorem toNum_any(A:Option Addr)(n c:Nat)(l:List Int)(w:World)(hr:Rd w .u8 A n c l)(hn:n<=1000000):Calls prog 172 #[.slice A n c] w fun r w'=>ToNumR r/\w=w':=by
 have HR:=hd_ hr;clear hr;go_enter func172,ntmps172
 go_wp2_with fail;go_loopw [4,9] (fun vx v wr=>∃(i:Nat) (x:Int),v=.int .i64 i/\vx=.int .i64 x/\i<=n/\w=wr) (fun _ v _=>n-(intOf v).toNat)
 case atStart=>exact⟨0,0,rfl,rfl,Nat.zero_le _,rfl⟩
 case round=>
  obtain⟨i,x,rfl,rfl,hi,rfl⟩:=hrel;by_cases hlt:i<n
  · obtain⟨b,o,rfl,_,_⟩:=HR.out.at_ (by have:=HR.out.cap;omega);obtain⟨y,hy⟩:=HR.out.cell i hlt;go_wp2_with fail;go_roundw;(case rel=>exact⟨i+1,_,by go_num,rfl,by omega,trivial⟩);case measure=>simp[intOf];omega
  by_cases h8:n=8
  · subst h8;by_cases hx:x<0;(· go_wp2_with fail;refine bodyPost_ret (v:=.tuple #[.int .i64 0,.bool false]) (by simp[results,results172,asAddr,Act.put]) rfl ⟨⟨_,_,rfl,by omega⟩,rfl⟩);go_wp2_with fail;refine bodyPost_ret (v:=.tuple #[.int .i64 x,.bool true]) (by simp[results,results172,asAddr,Act.put]) rfl ⟨⟨_,_,rfl,by omega⟩,rfl⟩
  go_wp2_with fail;refine bodyPost_ret (v:=.tuple #[.int .i64 0,.bool false]) (by simp[results,results172,asAddr,Act.put]) rfl ⟨⟨_,_,rfl,by omega⟩,rfl⟩
def LowA(A:Option Addr)(c D:Nat):Prop:=0<c->∃b o,A=some ⟨b,o,none⟩/\b<D
def RdrAt(w:World)(g D B:Nat)(bad:Bool):Prop:=∃A n c l,Cel w g 195 [.slice A n c,.bool bad]/\Rd w .u8 A n c l/\n<=B/\LowA A c D
theorem Rd.rdr{g c:Nat}{n' c':Nat}(h:Rd w .u8 A n c l)(hC:Cel w g 195 [.slice A' n' c',.bool bad])(hg:w.grownBy w' (some g)):Rd w' .u8 A n c l:=by
 refine⟨h.len,h.cap,fun h0=>?_⟩;obtain⟨b,o,e,hlt,hr⟩:=h.at_ h0;refine⟨b,o,e,Nat.lt_of_lt_of_le hlt hg.size,fun j v hv=>?_⟩;by_cases hb:b=g
 · exfalso;subst hb;have h1:=hr j v hv;obtain⟨x,hx⟩:∃x,v=.int .u8 x:=by
    rw[ints,List.getElem?_map]at hv
    cases hl:l[j]? with
    | none=>rw[hl]at hv;simp at hv
    | some x=>rw[hl]at hv;exact⟨x,by simpa using hv.symm⟩
   subst hx;rw[hC.cell]at h1;rcases hq:o+j with _|_|q<;>rw[hq]at h1<;>simp at h1
 rw[<-hr j v hv];exact World.cell?_of_block (hg.block b hlt (by simpa using hb))
theorem Rd.nil(w:World)(k:IntKind)(c:Nat)(h:c=0):Rd w k none 0 c []:=⟨rfl,by omega,fun h0=>by omega⟩
def TakeR(w:World)(g D B:Nat)(bad:Bool)(m:Int)(r:Ending)(w':World):Prop:=
 (∃A n c l bad',r=.returned (.slice A n c)/\Rd w' .u8 A n c l/\LowA A c D/\(n=0\/(n:Int)=m)/\n<=B/\RdrAt w' g D B bad'/\(bad'=false->bad=false/\(n:Int)=m))/\w.grownBy w' (some g)
theorem take_bad{g c:Nat}{m:Int}(hC:Cel w g 195 [.slice A n c,.bool bad])(hR:Rd w .u8 A n c l)(hn:n<=B)(hA:LowA A c D):TakeR w g D B bad m (.returned (.slice none 0 0)) (w.setCell ⟨g,1,none⟩ (.bool true)):=
 ⟨⟨none,0,0,[],true,rfl,Rd.nil _ _ _ rfl,fun h0=>by omega,.inl rfl,by omega,⟨A,n,c,l,hC.set 1 _,hR.rdr hC (grownBy_set1 _ _ _ _),hn,hA⟩,by simp⟩,grownBy_set1 _ _ _ _⟩
theorem rd_none(w:World)(k:IntKind)(A:Option Addr)(l:List Int)(h:l.length=0):Rd w k A 0 0 l:=⟨h,by omega,fun h0=>by omega⟩
theorem Rd.cutp{K:IntKind}{p:Addr}{c k:Nat}(h:Rd w K (some p) n c l)(hk:k<=n)(hne:¬c=k):Rd w K (some (p.add k)) (n-k) (c-k) (l.drop k):=by
 have hcap:=h.cap;obtain⟨b,o,e,_⟩:=h.at_ o_;obtain rfl:p=⟨b,o,none⟩:=by simpa using e
 have:=h.cut hk o_;rw[if_neg hne]at this;by_cases h0:k=0
 · subst h0;simpa[Addr.add] using this
 simpa[Addr.add,h0] using this
theorem LowA.add{p:Addr}{c k:Nat}(h:LowA (some p) c D):LowA (some (p.add k)) (c-k) D:=fun h0=>by
 obtain⟨b,o,e,hb⟩:=h o_
 obtain rfl:p=⟨b,o,none⟩:=by simpa using e
 by_cases hk:k=0
 · exact⟨b,o,by simp[Addr.add,hk],hb⟩
 · exact⟨b,o+k,by simp[Addr.add,hk],hb⟩
theorem take_ok{g c k:Nat}{A2:Option Addr}(hC:Cel w g 195 [.slice A n c,.bool false])(hR:Rd w .u8 A n c l)(hR2:Rd w .u8 A2 (n-k) (c-k) (l.drop k))(hk:k<=n)(hn:n<=B)(hA:LowA A c D)(hA2:LowA A2 (c-k) D):TakeR w g D B false k (.returned (.slice A k c)) (w.setCell ⟨g,0,none⟩ (.slice A2 (n-k) (c-k))):=
 ⟨⟨A,k,c,_,false,rfl,(hR.take hk).rdr hC (grownBy_set1 _ _ _ _),hA,.inr rfl,by omega,⟨A2,n-k,c-k,_,hC.set 0 _,hR2.rdr hC (grownBy_set1 _ _ _ _),by omega,hA2⟩,fun _=>⟨rfl,rfl⟩⟩,grownBy_set1 _ _ _ _⟩
theorem take_any(g D B:Nat)(bad:Bool)(m:Int)(w:World)(h:RdrAt w g D B bad)(_hB:B<=1000000):Calls prog 115 #[.pointer (some ⟨g,0,none⟩),.int .i64 m] w (TakeR w g D B bad m):=by
 obtain⟨A,n,c,l,hC,hR,hn,hA⟩:=h;have c0:w.cell? ⟨g,0,none⟩=some (.slice A n c):=by rw[hC.cell];rfl
 have c1:w.cell? ⟨g,1,none⟩=some (.bool bad):=by rw[hC.cell];rfl
 have f0:w.frozen? ⟨g,0,none⟩=false:=hC.free 0;have f1:w.frozen? ⟨g,1,none⟩=false:=hC.free 1;have HC:=hd_ hC;have HR:=hd_ hR;have HB:=hd_ (take_bad (m:=m) hC hR hn hA);have HA:=hd_ hA;clear hC hR hA;go_enter func115,ntmps115
 cases bad with
 | true=>
  go_wp2_with fail;go_ret;exact HB.out
 | false=>
  by_cases hm:m<0
  · go_wp2_with fail;go_ret;exact HB.out
  by_cases hgt:(n:Int)<m
  · go_wp2_with fail;go_ret;exact HB.out
  obtain⟨k,rfl⟩:=Int.eq_ofNat_of_zero_le (show 0<=m by omega);have hk:k<=n:=by omega
  have hcap:=HR.out.cap
  cases A with
  | none=>
   (obtain rfl:c=0:=by(rcases Nat.eq_zero_or_pos c with h|h);(· exact h);obtain⟨b,o,e,_⟩:=HR.out.at_ h;cases e);(obtain rfl:n=0:=by omega);(obtain rfl:k=0:=by omega);go_wp2_with fail;go_ret;exact take_ok (k:=0) HC.out HR.out (rd_none _ _ _ _ (by have:=HR.out.len;simpa using this)) (Nat.le_refl _) hn HA.out (fun h0=>by omega)
  | some p=>
   by_cases hck:c=k;(· subst hck;(obtain rfl:n=c:=by omega);have hc0:n<=n:=Nat.le_refl _;go_wp2_with fail;go_ret;have hz:=take_ok (A2:=some p) (k:=n) HC.out HR.out (by rw[Nat.sub_self];exact rd_none _ _ _ _ (by have:=HR.out.len;simp;omega)) (Nat.le_refl _) hn HA.out (fun h0=>by omega);rw[Nat.sub_self]at hz;exact hz);go_wp2_with fail;go_ret;exact take_ok (A2:=some (p.add k)) HC.out HR.out (HR.out.cutp hk hck) hk hn HA.out HA.out.add
def NumR(w:World)(g D B:Nat)(bad:Bool)(m:Int)(r:Ending)(w':World):Prop:=
 (∃x bad',r=.returned (.int .i64 x)/\0<=x/\x<=m/\RdrAt w' g D B bad'/\(bad'=false->bad=false))/\w.grownBy w' (some g)
theorem num_bad{g:Nat}{bad0:Bool}{m:Int}(hm:0<=m)(h:RdrAt w1 g D B bad)(hg:w.grownBy w1 (some g)):NumR w g D B bad0 m (.returned (.int .i64 0)) (w1.setCell ⟨g,1,none⟩ (.bool true)):=by
 obtain⟨A,n,c,l,hC,hR,hn,hA⟩:=h;exact⟨⟨0,true,rfl,Int.le_refl 0,hm,⟨A,n,c,l,hC.set 1 _,hR.rdr hC (grownBy_set1 _ _ _ _),hn,hA⟩,by simp⟩,grownBy_tr hg (grownBy_set1 _ _ _ _)⟩
theorem RdrAt.cells{g:Nat}(h:RdrAt w g D B bad):w.cell? ⟨g,1,none⟩=some (.bool bad)/\w.frozen? ⟨g,1,none⟩=false:=by
 obtain⟨A,n,c,l,hC,hR,hn,hA⟩:=h;exact⟨by rw[hC.cell];rfl,hC.free 1⟩
theorem num_r_any(g D B:Nat)(bad:Bool)(m:Int)(w:World)(h:RdrAt w g D B bad)(hB:B<=1000000)(hm:0<=m):Calls prog 116 #[.pointer (some ⟨g,0,none⟩),.int .i64 m] w (NumR w g D B bad m):=by
 go_enter func116,ntmps116
 go_wp2_with fail;refine(take_any g D B bad 8 w h hB).mono ?_;rintro _ w1 ⟨⟨A,n,c,l,bad1,rfl,hR,-,-,hn,hr1,hm1⟩,hg1⟩;have HM1:Hid (bad1=false->bad=false):=fun h=>(hm1 h).1;clear hm1;have HR1:=hd_ hr1;have HG1:=hd_ hg1;obtain⟨c1,f1⟩:=hr1.cells;clear hr1 hg1 h;go_wp2_with fail;refine(toNum_any A n c l w1 hR o_).mono ?_;rintro _ w2 ⟨⟨x,ok,rfl,hx⟩,rfl⟩
 cases ok with
 | false=>
  go_wp2_with fail;go_ret;exact num_bad hm HR1.out HG1.out
 | true=>
  by_cases hxm:m<x
  · go_wp2_with fail;go_ret;exact num_bad hm HR1.out HG1.out
  go_wp2_with fail;go_ret;exact⟨⟨x,bad1,rfl,hx,by omega,HR1.out,HM1.out⟩,HG1.out⟩
def RdrX(w:World)(g D B:Nat)(φ : Prop):Prop:=∃bad,RdrAt w g D B bad/\(bad=false->φ)
theorem RdrAt.below{g:Nat}(h:RdrAt w g D B bad)(hb:Bl w w'):RdrAt w' g D B bad:=by
 obtain⟨A,n,c,l,hC,hR,hn,hA⟩:=h;exact⟨A,n,c,l,hC.below hb hC.lt,hR.below hb,hn,hA⟩
theorem RdrAt.far{g:Nat}(h:RdrAt w g D B bad)(hg:w.grownBy w' (some b))(hne:b≠g)(hD:D<=b):RdrAt w' g D B bad:=by
 obtain⟨A,n,c,l,hC,hR,hn,hA⟩:=h;refine⟨A,n,c,l,hC.grown hg s1_,⟨hR.len,hR.cap,fun h0=>?_⟩,hn,hA⟩;obtain⟨b1,o1,e1,hlt⟩:=hA h0;obtain⟨b2,o2,e2,hlt2,hr2⟩:=hR.at_ h0;subst e1;obtain⟨rfl,rfl⟩:b1=b2/\o1=o2:=by simpa using e2
 exact⟨b1,o1,rfl,Nat.lt_of_lt_of_le hlt2 hg.size,fun j v hv=>by
  rw[<-hr2 j v hv]
  exact World.cell?_of_block (hg.block b1 hlt2 s1_)⟩
theorem RdrAt.lt{g:Nat}(h:RdrAt w g D B bad):g<w.heap.size:=by
 obtain⟨A,n,c,l,hC,hR,hn,hA⟩:=h;exact hC.lt
theorem own_base{b':Nat}(h:OwnB w b v n)(hb:b'<=b):OwnB w b' v n:=by
 obtain⟨l,hl,ho⟩:=h;exact⟨l,hl,own_mono ho hb⟩
theorem grownBy_far{g:Nat}(h:w.grownBy w1 (some g))(hg:w1.grownBy w2 (some b))(hb:w.heap.size<=b):w.grownBy w2 (some g):=
 ⟨hg.os.trans h.os,hg.tape.trans h.tape,hg.output.trans h.output,Nat.le_trans h.size hg.size,fun k hk hne=>(hg.block k (Nat.lt_of_lt_of_le hk h.size) (fun e=>by cases e;omega)).trans (h.block k hk hne)⟩
theorem box_r_any(g D B:Nat)(bad:Bool)(w:World)(h:RdrAt w g D B bad)(hB:B<=1000000):Calls prog 118 #[.pointer (some ⟨g,0,none⟩)] w fun r w'=>(∃A n c,r=.returned (.slice A n c)/\OwnB w' w.heap.size (.slice A n c) n/\n<=300/\n<=B/\RdrX w' g D B (bad=false))/\w.grownBy w' (some g):=by
 go_enter func118,ntmps118
 go_wp2_with fail;refine(num_r_any g D B bad 300 w h hB dd).mono ?_;rintro _ w1 ⟨⟨x,bad1,rfl,hx0,hx,hr1,hm1⟩,hg1⟩;have HM1:=hd_ hm1;clear hm1;have HG1:=hd_ hg1;clear hg1;go_wp2_with fail;refine(take_any g D B bad1 x w1 hr1 hB).mono ?_;rintro _ w2 ⟨⟨A,n,c,l,bad2,rfl,hR,-,hnx,hn,hr2,hm2⟩,hg2⟩;have HM2:Hid (bad2=false->bad=false):=fun h=>HM1.out (hm2 h).1;clear hm2;have HR2:=hd_ hr2;have HG2:=hd_ (grownBy_tr HG1.out hg2);clear hr2 hg2 hr1;go_wp2_with fail;refine(bclone_any A n c l w2 hR o_).mono ?_;rintro _ w3 ⟨⟨A3,c3,rfl,ho3⟩,hb3⟩;have HR3:=hd_ (HR2.out.below hb3);have HO3:=hd_ (own_base ho3 HG2.out.size);have HG3:=hd_ (grownBy_tr HG2.out (grownBy_of hb3));clear hb3 ho3;go_wp2_with fail;go_ret;exact⟨⟨A3,n,c3,rfl,HO3.out,by omega,hn,bad2,HR3.out,HM2.out⟩,HG3.out⟩
theorem info116':(prog.info? 116).map (·.size)=some 2:=by kernel_rfl
theorem sig_r_any(g D B:Nat)(bad:Bool)(w:World)(h:RdrAt w g D B bad)(hB:B<=1000000)(hD:D<=w.heap.size):Calls prog 126 #[.pointer (some ⟨g,0,none⟩)] w fun r w'=>(∃E S:Int,r=.returned (.agg #[.int .i64 E,.int .i64 S])/\RdrX w' g D B (bad=false))/\w.grownBy w' (some g):=by
 obtain⟨w0,hW⟩:=ex_ (w.alloc (.cells #[.int .i64 0,.int .i64 0] 116));have hb0:=nb_ hW;have HZ:Hid (Row w0 w.heap.size .i64 116 2):=by rw[hW];exact Row.new [0,0] _ rfl rfl
 have HR0:=hd_ (h.below hb0);have hlt:g<w.heap.size:=h.lt;have HG0:Hid (w.grownBy w0 (some g)):=grownBy_of hb0;have hs0:w.heap.size<w0.heap.size:=HZ.out.lt;have HW:=hd_ hW;clear h hb0 hW;go_enter func126,ntmps126
 go_wp2_with ((change Calls _ _ _ (w.alloc (.cells #[.int .i64 0,.int .i64 0] 116)) _);fail);rw[<-HW.out];refine(num_r_any g D B bad 1073741788 w0 HR0.out hB dd).mono ?_;rintro _ w1 ⟨⟨x,bad1,rfl,-,-,hr1,hm1⟩,hg1⟩;have HM1:=hd_ hm1;clear hm1;have HG1:=hd_ (grownBy_tr HG0.out hg1);have HZ1:=hd_ (HZ.out.grown hg1 s1_);clear hg1;go_wp2_with fail;refine(num_r_any g D B bad1 1073741788 w1 hr1 hB dd).mono ?_;rintro _ w2 ⟨⟨y,bad2,rfl,-,-,hr2,hm2⟩,hg2⟩;have HM2:Hid (bad2=false->bad=false):=fun h=>HM1.out (hm2 h);clear hm2;have HG2:=hd_ (grownBy_tr HG1.out hg2);have HZ2:=hd_ (HZ1.out.grown hg2 s1_);have HR2:=hd_ hr2;clear hg2 hr1 hr2;go_wp2_with (refine store_blk rfl 116 (.tmp 2) (.tmp 9) rr w.heap.size .i64 [x,y] rr rr HZ2.out rfl info116' ?_;intro w3 hB3 hg3);have hload:=hB3.loads underlying116 rfl info116';refine bodyPost_ret (v:=.agg (ints .i64 [x,y]).toArray) (by simp[results,results126,asAddr,Act.put,hload]) rfl ⟨⟨x,y,rfl,bad2,HR2.out.far hg3 o_ hD,HM2.out⟩,grownBy_far HG2.out hg3 (Nat.le_refl _)⟩
end Go.Proofs.YtppjnahcnofokaaGreat.T
namespace Go.Proofs.YtppjnahcnofokaaGreat.T
open Go.RowKit Go.Proofs.YtppjnahcnofokaaGreatW.PrintLast
open Go.Proofs.Tryz
variable{k:IntKind}{a:Act}{b i n B base m fuel D B':Nat}{l ch:List Int}{w w' w1 w2:World}{t:TypeId}{P:Program}{cs xs vs l3:List Value}{A A':Option Addr}{o oi:Oper}{e s f st fl:Int}{ops:Array Oper}{rest l0:List Oper}{v:Value}{r:Option Nat}{rs rs2:List (Option Addr×Nat×Nat×List Int)}{E:Prop}{ad ai go:List Bool}{N:Act->Prop}{place:Nat->Option (Nat×Nat)}{bad:Bool}{es es':List (Int×List Int)}{T:List TypeId}
theorem RdrX.below{g:Nat}{φ : Prop}(h:RdrX w g D B φ)(hb:Bl w w'):RdrX w' g D B φ:=by
 obtain⟨bad,h,hp⟩:=h;exact⟨bad,h.below hb,hp⟩
theorem RdrX.far{g:Nat}{φ : Prop}(h:RdrX w g D B φ)(hg:w.grownBy w' (some b))(hne:b≠g)(hD:D<=b):RdrX w' g D B φ:=by
 obtain⟨bad,h,hp⟩:=h;exact⟨bad,h.far hg hne hD,hp⟩
theorem RdrAt.low{g K:Nat}(h:RdrAt w g D B bad)(hb:Below K w w')(hg:g<K)(hD:D<=K):RdrAt w' g D B bad:=by
 obtain⟨A,n,c,l,hC,hR,hn,hA⟩:=h;refine⟨A,n,c,l,hC.below hb hg,⟨hR.len,hR.cap,fun h0=>?_⟩,hn,hA⟩;obtain⟨b1,o1,e1,hlt⟩:=hA h0;obtain⟨b2,o2,e2,hlt2,hr2⟩:=hR.at_ h0;subst e1;obtain⟨rfl,rfl⟩:b1=b2/\o1=o2:=by simpa using e2
 exact⟨b1,o1,rfl,Nat.lt_of_lt_of_le hlt2 hb.size,fun j v hv=>by
  rw[<-hr2 j v hv]
  exact hb.cell (p:=⟨b1,o1+j,none⟩) (by show b1<K;omega)⟩
theorem grownBy_low{g K:Nat}(h:w.grownBy w1 (some g))(hb:Below K w1 w2)(hK:w.heap.size<=K):w.grownBy w2 (some g):=
 ⟨hb.os.trans h.os,hb.tape.trans h.tape,hb.output.trans h.output,Nat.le_trans h.size hb.size,fun k hk hne=>(hb.block k o_).trans (h.block k hk hne)⟩
structure OpS (w w':World) (g D B:Nat) (φ : Prop):Prop where
 rdr:RdrX w' g D B φ
 res:Row w' w.heap.size .i64 55 5
 row:Row w' (w.heap.size+1) .i64 251 5
 old:g<w.heap.size
 low:D<=w.heap.size
 frame:w.grownBy w' (some g)
theorem OpS.g{g:Nat}{φ : Prop}(h:OpS w w1 g D B φ)(hr:RdrX w2 g D B φ)(hg:w1.grownBy w2 (some g)):OpS w w2 g D B φ:=
 ⟨hr,h.res.grown hg (by have:=h.old;simp;omega),h.row.grown hg (by have:=h.old;simp;omega),h.old,h.low,grownBy_tr h.frame hg⟩
theorem OpS.set{g:Nat}{x:Int}{φ : Prop}(h:OpS w w1 g D B φ):OpS w (w1.setCell ⟨w.heap.size+1,i,none⟩ (.int .i64 x)) g D B φ:=
 have hg:=grownBy_set1 w1 (w.heap.size+1) i (.int .i64 x)
 ⟨h.rdr.far hg (by have:=h.old;omega) (by have:=h.low;omega),h.res.grown hg s_,h.row.set i x,h.old,h.low,grownBy_far h.frame hg o_⟩
theorem info55:(prog.info? 55).map (·.size)=some 5:=by kernel_rfl
theorem op_r_any(g D B:Nat)(bad:Bool)(w:World)(h:RdrAt w g D B bad)(hB:B<=1000000)(hD:D<=w.heap.size):Calls prog 125 #[.pointer (some ⟨g,0,none⟩)] w fun r w'=>(∃a b c d e:Int,r=.returned (opv a b c d e)/\RdrX w' g D B (bad=false))/\w.grownBy w' (some g):=by
 obtain⟨w0,hW⟩:=ex_ ((w.alloc (.cells #[.int .i64 0,.int .i64 0,.int .i64 0,.int .i64 0,.int .i64 0] 55)).alloc (.cells #[.int .i64 0,.int .i64 0,.int .i64 0,.int .i64 0,.int .i64 0] 251));have HS:Hid (OpS w w0 g D B (bad=false)):=by rw[hW];exact⟨(RdrX.below ⟨bad,h,id⟩ (bal b0_)),(Row.new [0,0,0,0,0] _ rfl rfl).alloc _,Row.new [0,0,0,0,0] _ rfl s_,h.lt,hD,grownBy_of (bal b0_)⟩
 have HW:=hd_ hW;clear h hW;go_enter func125,ntmps125
 go_wp2_with ((change Code.wp _ _ _ _ ((w.alloc (.cells #[.int .i64 0,.int .i64 0,.int .i64 0,.int .i64 0,.int .i64 0] 55)).alloc (.cells #[.int .i64 0,.int .i64 0,.int .i64 0,.int .i64 0,.int .i64 0] 251)));fail);rw[<-HW.out];go_loopw [5] (fun v wr=>∃i:Nat,v=.int .i64 i/\i<=5/\Hid (OpS w wr g D B (bad=false))) (fun v _=>5-(intOf v).toNat)
 case atStart=>exact⟨0,rfl,by omega,HS⟩
 case round=>
  obtain⟨i,rfl,hi,HR⟩:=hrel;by_cases hlt:i<5
  · obtain⟨bad1,hr1,hp1⟩:=HR.out.rdr;have HP1:=hd_ hp1;clear hp1;go_wp2_with fail;refine(num_r_any g D B bad1 1099511627776 _ hr1 hB dd).mono ?_;rintro _ w1 ⟨⟨x,bad2,rfl,-,-,hr2,hm2⟩,hg2⟩;have HS2:=hd_ (HR.out.g ⟨bad2,hr2,fun h=>HP1.out (hm2 h)⟩ hg2);obtain⟨y,c0⟩:=HS2.out.row.at i hlt;have f0:=HS2.out.row.free i;clear hr1 hr2 hg2 hm2;go_wp2_with fail;go_roundw;(case rel=>exact⟨i+1,by go_num,by omega,HS2.out.set⟩);case measure=>simp[intOf];omega
  obtain⟨x0,c0⟩:=HR.out.row.at 0 dd;obtain⟨x1,c1⟩:=HR.out.row.at 1 dd;obtain⟨x2,c2⟩:=HR.out.row.at 2 dd;obtain⟨x3,c3⟩:=HR.out.row.at 3 dd;obtain⟨x4,c4⟩:=HR.out.row.at 4 dd;go_wp2_with (refine store_blk rfl 55 (.tmp 2) (.tmp 24) rr w.heap.size .i64 [x0,x1,x2,x3,x4] rr rr HR.out.res rfl info55 ?_;intro w3 hB3 hg3);have hload:=hB3.loads underlying55 rfl info55;refine bodyPost_ret (v:=opv x0 x1 x2 x3 x4) (by simp[results,results125,asAddr,Act.put,hload,opv,ints]) rfl ⟨⟨x0,x1,x2,x3,x4,rfl,HR.out.rdr.far hg3 (by have:=HR.out.old;omega) HR.out.low⟩,grownBy_far HR.out.frame hg3 (Nat.le_refl _)⟩
theorem addr_add(b o j:Nat):(⟨b,o,none⟩:Addr).add j=⟨b,o+j,none⟩:=by
 by_cases h:j=0
 · subst h;simp[Addr.add]
 simp[Addr.add,h]
theorem copy_into{Q:Exit->Act->World->Prop}(hgd:o.guard=none)(d s:Operand)(ho:o.op=.call {callee:=.builtin .copy,args:=#[d,s],argTypes:=#[31,31] })(g N n c:Nat)(t:TypeId)(A:Option Addr)(l:List Int)(hd:a.eval d=.slice (some ⟨g,0,none⟩) N N)(hs:a.eval s=.slice A n c)(hr:Rd w .u8 A n c l)(hn:n<=N)(hg:Row w g .u8 t N)(h:∀w',Row w' g .u8 t N->Below g w w'->(Value.int .i64 n=Value.int .i64 n)->wpList prog ops Q rest (a.put o.dst (goInt n)) w'):wpList prog ops Q (o :: rest) a w:=by
 obtain⟨l0,hl0,hB⟩:=hg;have hlen:=hr.len;have hcs:(ints .u8 l).length=n:=by rw[ints_len,hlen]
 refine wpList_copy_splice hgd d s 31 31 ho 5 underlying31 kk (some ⟨g,0,none⟩) A N N n c hd hs g 0 (ints .u8 l0) t hB (ints .u8 l) (by rw[hcs];exact(Nat.min_eq_left hn).symm) ?_ (by rw[hcs,ints_len];omega) ?_ g w (Below.refl _ _) (Nat.le_refl _) ?_
 · intro h0;obtain⟨b,o',e,hlt,hrr⟩:=hr.at_ (by have:=hr.cap;omega);exact⟨rfl,⟨b,o',none⟩,e,fun j v hv=>by rw[addr_add];exact hrr j v hv⟩
 · intro v hv;simp only[ints,List.mem_map]at hv;obtain⟨x,_,rfl⟩:=hv;rfl
 intro w' hg' hb';rw[hcs];refine h w' ⟨l0.take 0++(l++l0.drop (0+l.length)),by simp;omega,?_⟩ hb' rfl;have:=hg'.out;unfold Blk;rw[this,splice];simp[ints]
theorem hash_r_any(g D B:Nat)(bad:Bool)(w:World)(h:RdrAt w g D B bad)(hB:B<=1000000)(hD:D<=w.heap.size):Calls prog 119 #[.pointer (some ⟨g,0,none⟩)] w fun r w'=>(IsH r/\RdrX w' g D B (bad=false))/\w.grownBy w' (some g):=by
 obtain⟨w0,hW⟩:=ex_ ((w.alloc (.cells (ints .u8 zl).toArray 43)).alloc (.cells (ints .u8 zl).toArray 43));have hb0:Bl w w0:=by rw[hW];exact bal b0_
 have HZ0:Hid (Row w0 w.heap.size .u8 43 32):=by rw[hW];exact(Row.new zl _ rfl rfl).alloc _
 have HZ1:Hid (Row w0 (w.heap.size+1) .u8 43 32):=by rw[hW];exact Row.new zl _ rfl s_
 have HR0:=hd_ (h.below hb0);have hlt:g<w.heap.size:=h.lt;have HG0:Hid (w.grownBy w0 (some g)):=grownBy_of hb0;have HW:=hd_ hW;clear h hb0 hW;go_enter func119,ntmps119
 go_wp2_with fail;refine pr_ 0 4 (bt 4 0) fun w1d hw1d=>?_;refine mG ?_;have HR1:Hid (RdrAt w1d g D B bad):=by rw[<-hw1d];exact(show RdrAt ((w.alloc (.cells (ints .u8 zl).toArray 43)).alloc (.cells (ints .u8 zl).toArray 43)).drew g D B bad from by rw[<-HW.out];exact HR0.out.below (Below.refl _ _).drew)
 have HZA:Hid (Row w1d w.heap.size .u8 43 32):=by rw[<-hw1d];exact(show Row ((w.alloc (.cells (ints .u8 zl).toArray 43)).alloc (.cells (ints .u8 zl).toArray 43)).drew _ _ _ _ from by rw[<-HW.out];exact HZ0.out.drew)
 have HZB:Hid (Row w1d (w.heap.size+1) .u8 43 32):=by rw[<-hw1d];exact(show Row ((w.alloc (.cells (ints .u8 zl).toArray 43)).alloc (.cells (ints .u8 zl).toArray 43)).drew _ _ _ _ from by rw[<-HW.out];exact HZ1.out.drew)
 have HG1:Hid (w.grownBy w1d (some g)):=by rw[<-hw1d];exact(show w.grownBy ((w.alloc (.cells (ints .u8 zl).toArray 43)).alloc (.cells (ints .u8 zl).toArray 43)).drew (some g) from by rw[<-HW.out];exact grownBy_drew' HG0.out)
 clear hw1d;refine wpAny_of_last (S:=fun w'=>w'=w1d) (ds:=[1,2,3]) _ _ _ _ ?_;have hH:w1d=w1d:=rfl;refine ps_ 0 1 3 (bt 4 1) ?_;refine mT1 ?_;refine tl_ 1 ?_;refine mF ?_;go_wp2_with fail;refine(take_any g D B bad 32 w1d HR1.out hB).mono ?_;rintro _ w3 ⟨⟨A,n,c,l,bad3,rfl,hR3,-,hn,-,hr3,hm3⟩,hg3⟩;have HM3:Hid (bad3=false->bad=false):=fun h=>(hm3 h).1;clear hm3;have HR3:=hd_ hr3;have HA3:=hd_ (HZA.out.grown hg3 s1_);have HB3:=hd_ (HZB.out.grown hg3 s1_);have HG3:=hd_ (grownBy_tr HG1.out hg3);have HD3:=hd_ hR3;clear hr3 hg3 hR3 hH;have hn32:n<=32:=by omega
 go_wp2_with (first
  | (refine copy_into rfl (.tmp 4) (.tmp 6) rr (w.heap.size+1) 32 n c 43 A l rr rr HD3.out hn32 HB3.out ?_;intro w4 hB4 hb4 _;obtain⟨l4,hl4,hB4⟩:=hB4;have HB4:=hd_ hB4;have HL4:=hd_ hl4;have HA4:=hd_ (HA3.out.below hb4 o_);have HR4:=hd_ (HR3.out.low hb4 o_ o_);have HG4:=hd_ (grownBy_low HG3.out hb4 o_);clear hB4 hl4 hb4)
  | (refine wpList_load_mid rfl 43 (.tmp 3) rr (w.heap.size+1) 0 rr (ints .u8 l4) _ HB4.out.range underlying43 rfl (hi43 HL4.out).out ?_)
  | (refine store_blk rfl 43 (.tmp 2) (.tmp 8) rr w.heap.size .u8 l4 rr rr HA4.out HL4.out (by show _=_;rw[HL4.out];exact info43) ?_;intro w5 hB5 hg5))
 have hload:=hB5.loads underlying43 rfl (by show _=_;rw[HL4.out];exact info43);refine bodyPost_ret (v:=.agg (ints .u8 l4).toArray) (by simp[results,results119,asAddr,Act.put,hload]) rfl ⟨⟨⟨l4,HL4.out,rfl⟩,bad3,HR4.out.far hg5 o_ hD,HM3.out⟩,grownBy_far HG4.out hg5 (Nat.le_refl _)⟩
end Go.Proofs.YtppjnahcnofokaaGreat.T
