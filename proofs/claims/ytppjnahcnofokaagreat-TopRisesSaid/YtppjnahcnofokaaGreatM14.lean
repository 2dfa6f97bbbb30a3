import Derived.Test.YtppjnahcnofokaaGreatM0
import Derived.Test.YtppjnahcnofokaaGreatM13
import Derived.Test.YtppjnahcnofokaaGreatRows
set_option maxRecDepth 100000
set_option maxHeartbeats 32000000
set_option linter.unusedSimpArgs false
set_option linter.unusedVariables false
namespace Go.Proofs.YtppjnahcnofokaaGreat.T
open Go.RowKit Go.Proofs.YtppjnahcnofokaaGreatW.PrintLast
open Go.Proofs.Tryz
variable{k:IntKind}{a:Act}{b i n B base m fuel D B':Nat}{l ch:List Int}{w w' w1 w2:World}{t:TypeId}{P:Program}{cs xs vs l3:List Value}{A A':Option Addr}{o oi:Oper}{e s f st fl:Int}{ops:Array Oper}{rest l0:List Oper}{v:Value}{r:Option Nat}{rs rs2:List (Option Addr×Nat×Nat×List Int)}{E:Prop}{ad ai go:List Bool}{N:Act->Prop}{place:Nat->Option (Nat×Nat)}{bad:Bool}{es es':List (Int×List Int)}{T:List TypeId}
theorem Kp.low'(h:Kp T B w w')(hB:B'<=B):Kp T B' w w':=⟨h.os,h.tape,h.output,h.size,fun k hk hs=>h.low k (Nat.lt_of_lt_of_le hk hB) hs,h.blk⟩
theorem Kp.range{o:Nat}(h:Kp T B w w')(hr:w.rangeAt b o vs)(h1:b<B)(h2:b<w.heap.size):w'.rangeAt b o vs:=fun j v hv=>by
 rw[World.cell?_of_block (a:=⟨b,o+j,none⟩) (h.low b h1 h2)]
 exact hr j v hv
theorem Kp.under(h:Bl w w1)(hk:Kp T w.heap.size w1 w2):Bl w w2:=
 ⟨hk.os.trans h.os,hk.tape.trans h.tape,hk.output.trans h.output,Nat.le_trans h.size hk.size,fun k hk'=>(hk.low k hk' (Nat.lt_of_lt_of_le hk' h.size)).trans (h.block k hk')⟩
def zac:AcP:=⟨0,0,0,0,none,0,0,[],0,none,0,0,[]⟩
theorem zacOk(w:World)(B:Nat):AcOk w B zac where
 ops:=⟨rfl,Nat.le_refl _,fun h=>absurd h (Nat.lt_irrefl 0)⟩
 nA:=Nat.zero_le _
 opsLo:=fun h=>absurd h (Nat.lt_irrefl 0)
 byt:=⟨rfl,Nat.le_refl _,fun h=>absurd h (Nat.lt_irrefl 0)⟩
 nY:=Nat.zero_le _
 bytLo:=fun h=>absurd h (Nat.lt_irrefl 0)
theorem run_field45(e k:Int)(t ch:List Int)(ad:List Bool)(w:World):(Instr.field 45 (.agg (vw e t ad k ch).toArray) 0).run prog w=.ok (.int .i64 e) w:=by
 unfold Instr.field;simp only[Sem.run_bind,run_underlying underlying45,Result.andThen_ok,asAgg,Sem.run_pure];have hu:prog.underlying 3=some (.int .i64):=by kernel_rfl
 have hag:(isAgg 3).run prog w=.ok false w:=by simp[isAgg,run_underlying hu]
 have h0:(vw e t ad k ch)[0]? = some (.int .i64 e):=by simp[vw]
 simp[part,hag,h0]
variable{x:PyP}
theorem PtR.some{o:Option PyP}{r:Ending}(h:PtR w o r w')(e:o=some x):∃b,r=.returned (.pointer (some ⟨b,0,none⟩))/\Cel w' b 82 (pyC x)/\PyOk x:=by
 subst e;rcases h with⟨e,_⟩|⟨b,y,e,h1,_,h2,h3⟩
 · cases e
 injection e with e
 subst e;exact⟨b,h1,h2,h3⟩
theorem PtR.none{o:Option PyP}{r:Ending}(h:PtR w o r w')(e:o=none):r=.returned (.pointer none):=by
 subst e;rcases h with⟨_,h⟩|⟨b,y,e,_⟩
 · exact h
 cases e
theorem known_any(w:World):Calls prog 11 #[] w fun r w'=>r=.returned (.bool true)/\Bl w w':=by
 go_enter func11,ntmps11
 go_wp2_with fail;refine(new_any w).mono ?_;rintro _ w1 ⟨g,d,x,rfl,hd,hb1,hx,hxe,hxn,hxs⟩;have H1:=hd_ hd;have HB1:=hd_ hb1;have HX:=hd_ hx;have HE:=hd_ hxe;have HN:=hd_ hxn;have HS:=hd_ hxs;clear hd hx hxe hxn hxs hb1;go_wp2_with fail;refine(party_any w1 _ g d H1.out 0 dd).mono ?_;rintro r w2 ⟨hp,hd,hk⟩;obtain⟨b,rfl,hc,hok⟩:=hp.some HX.out;have H2:=hd_ hd;have HK2:=hd_ hk;clear hp hd hk hc hok;go_wp2_with fail;refine(party_any w2 _ g d H2.out 0 dd).mono ?_;rintro r w3 ⟨hp,hd,hk⟩;obtain⟨b3,rfl,hc,hok⟩:=hp.some HX.out;have H3:=hd_ hd;have HC:=hd_ hc;have HO:=hd_ hok;have HK3:=hd_ (HK2.out.trans hk);clear hp hd hk hc hok;go_wp2_with fail;refine(view_p_any b3 x w3 HC.out HO.out).mono ?_;rintro _ w4 ⟨rfl,hb⟩;have H4:=hd_ (H3.out.below hb);have HK4:=hd_ (HK3.out.bel hb);have E:=HE.out;rw[E];clear hb E;go_wp2_with fail;rw[run_field45];go_wp2_with fail;refine(party_any w4 _ g d H4.out 7 dd).mono ?_;rintro r w5 ⟨hp,hd,hk⟩;have hr:=hp.none (HN.out 7 dd);subst hr;have H5:=hd_ hd;have HK5:=hd_ (HK4.out.trans hk);clear hp hd hk;go_wp2_with fail;refine(step_any w5 _ g d H5.out zac (zacOk _ _) (by rw[HS.out];exact Nat.zero_le _)).mono ?_;rintro r w6 ⟨⟨e,rfl,he⟩,_,-,hk,-⟩;have HK6:=hd_ (HK5.out.trans hk);clear hk;obtain rfl:=he (.inl dd);go_wp2_with fail;exact bodyPost_ret (v:=.bool true) (by simp[results,results11,asAddr,Act.put]) rfl ⟨rfl,Kp.under HB1.out HK6.out⟩
end Go.Proofs.YtppjnahcnofokaaGreat.T
namespace Go.Proofs.YtppjnahcnofokaaGreat.T
open Go.RowKit Go.Proofs.YtppjnahcnofokaaGreatW.PrintLast
open Go.Proofs.Tryz
variable{k:IntKind}{a:Act}{b i n B base m fuel D B':Nat}{l ch:List Int}{w w' w1 w2:World}{t:TypeId}{P:Program}{cs xs vs l3:List Value}{A A':Option Addr}{o oi:Oper}{e s f st fl:Int}{ops:Array Oper}{rest l0:List Oper}{v:Value}{r:Option Nat}{rs rs2:List (Option Addr×Nat×Nat×List Int)}{E:Prop}{ad ai go:List Bool}{N:Act->Prop}{place:Nat->Option (Nat×Nat)}{bad:Bool}{es es':List (Int×List Int)}{T:List TypeId}
structure ActsR (W:World) (A:Option Addr) (n c:Nat) (x:Nat->AcP):Prop where
 cap:n<=c
 at_:0<n->∃b o,A=some ⟨b,o,none⟩/\b<W.heap.size/\∀i,i<n->W.rangeAt b (o+i*7) (acC (x i))
 ops:∀i,i<n->OpsR W (x i).A (x i).nA (x i).cA (x i).lA
 nA:∀i,i<n->(x i).nA<=140737488355328
 opsLo:∀i,i<n->LowA (x i).A (x i).cA W.heap.size
 byt:∀i,i<n->Rd W .u8 (x i).Y (x i).nY (x i).cY (x i).lY
 nY:∀i,i<n->(x i).nY<=140737488355328
 bytLo:∀i,i<n->LowA (x i).Y (x i).cY W.heap.size
theorem ActsR.ok{W:World}{c:Nat}{x:Nat->AcP}(h:ActsR W A n c x)(hi:i<n)(h1:(x i).nA<=1000)(h2:(x i).nY<=1000000):AcOk W W.heap.size (x i) where
 ops:=h.ops i hi
 nA:=h1
 opsLo:=h.opsLo i hi
 byt:=h.byt i hi
 nY:=h2
 bytLo:=h.bytLo i hi
def AqR(n:Nat)(x:Nat->AcP)(r:Ending):Prop:=∃q,r=.returned (.bool q)/\(q=true->∀i,i<n->i<45->(x i).nA<=1000/\(x i).nY<=1000000)
theorem actsOk_any(w:World)(A:Option Addr)(n c:Nat)(x:Nat->AcP)(h:ActsR w A n c x):Calls prog 6 #[.slice A n c] w fun r w'=>AqR n x r/\Bl w w':=by
 have H:=hd_ h;clear h;go_enter func6,ntmps6
 go_wp2_with fail;go_loopw [3,4] (fun vs v wr=>∃(i s:Nat),vs=.int .i64 s/\v=.int .i64 i/\i<=45/\s<=500/\Hid (i<=n)/\Hid (∀k,k<i->(x k).nA<=1000/\(x k).nY<=1000000)/\Hid (Bl w wr)) (fun _ v _=>45-(intOf v).toNat)
 case atStart=>exact⟨0,0,rfl,rfl,by omega,by omega,hd_ (Nat.zero_le _),hd_ (fun k hk=>absurd hk (Nat.not_lt_zero _)),hd_ (Below.refl _ _)⟩
 case round=>
  obtain⟨wa,rfl⟩:=ex_ (wr);obtain⟨i,s,rfl,rfl,hi,hs,HI,HB,HW⟩:=hrel;by_cases hlt:i<n;rotate_left
  · (obtain rfl:i=n:=by have:=HI.out;omega);go_wp2_with fail;exact bodyPost_ret (v:=.bool true) (by simp[results,results6,asAddr,Act.put]) rfl ⟨⟨true,rfl,fun _ k hk _=>HB.out k hk⟩,HW.out⟩
  by_cases h45:i<45;rotate_left
  · (obtain rfl:i=45:=by omega);go_wp2_with fail;exact bodyPost_ret (v:=.bool true) (by simp[results,results6,asAddr,Act.put]) rfl ⟨⟨true,rfl,fun _ k hk hk'=>HB.out k hk'⟩,HW.out⟩
  obtain⟨b,o,rfl,hb,hr⟩:=H.out.at_ o_;have hcap:=H.out.cap;obtain⟨p,hp⟩:=ex_ (x i);have HR:Hid (w.rangeAt b (o+i*7) (acC p)):=by rw[hp];exact hr i hlt
  have HP:=hd_ hp;obtain⟨mA,hmA⟩:∃m,m=p.nA:=⟨_,rfl⟩;obtain⟨mY,hmY⟩:∃m,m=p.nY:=⟨_,rfl⟩;have hA1:mA<=140737488355328:=by rw[hmA,hp];exact H.out.nA i hlt
  have hY1:mY<=140737488355328:=by rw[hmY,hp];exact H.out.nY i hlt
  have HMA:=hd_ hmA;have HMY:=hd_ hmY;clear hr hp hmA hmY;go_wp2_with fail;refine still_tail 16 mixed kk (fun W4 hW4=>?_);refine mD ?_;have HB4:Hid (Bl w W4):=by rw[<-hW4];exact HW.out.drew
  clear hW4;have k4:W4.cell? ⟨b,o+i*7+4,none⟩=some (.slice p.A mA p.cA):=by rw[HMA.out];exact(HB4.out.cell (p:=⟨b,o+i*7+4,none⟩) hb).trans (HR.out 4 _ rfl)
  have k6:W4.cell? ⟨b,o+i*7+6,none⟩=some (.slice p.Y mY p.cY):=by rw[HMY.out];exact(HB4.out.cell (p:=⟨b,o+i*7+6,none⟩) hb).trans (HR.out 6 _ rfl)
  obtain⟨t,ht⟩:∃t:Nat,t=mY / 100:=⟨_,rfl⟩;have hq:Hid ((mY:Int) / 100=(t:Int)):=hd_ <| by omega
  have hw1:Hid (IntKind.i64.wrap ((s:Int)+mA)=((s+mA:Nat):Int)):=hd_ <| (IntWalk.i64_in _ o_).trans o_
  have hw2:Hid (IntKind.i64.wrap (t:Int)=(t:Int)):=hd_ <| IntWalk.i64_in _ o_
  have hw3:Hid (IntKind.i64.wrap (((s+mA:Nat):Int)+t)=((s+mA+t:Nat):Int)):=hd_ <| (IntWalk.i64_in _ o_).trans o_
  repeat still_step
  rw[hq.out,hw1.out,hw2.out,hw3.out];clear hq hw1 hw2 hw3;refine wpStill_nil ?_;by_cases hbig:s+mA+t<=500
  · (have hle:((s+mA+t:Nat):Int)<=500:=by omega);(have hpr:(x i).nA<=1000/\(x i).nY<=1000000:=by rw[<-HP.out,<- HMA.out,<- HMY.out];omega);(have HB5:Hid (∀k,k<i+1->(x k).nA<=1000/\(x k).nY<=1000000):=fun k hk=>by(rcases Nat.lt_or_ge k i with h|h);(· exact HB.out k h);(obtain rfl:k=i:=by omega);exact hpr);obtain⟨s',hs'⟩:∃s',s+mA+t=s':=⟨_,rfl⟩;rw[hs']at hbig hle ⊢;clear hs' ht hpr k4 k6;go_wp2_with fail;exact⟨⟨i+1,s',rfl,by go_num,by omega,hbig,hd_ o_,HB5,HB4⟩,by simp[intOf];omega⟩
  have hle:¬((s+mA+t:Nat):Int)<=500:=by omega
  obtain⟨s',hs'⟩:∃s',s+mA+t=s':=⟨_,rfl⟩;rw[hs']at hbig hle ⊢;clear hs' ht k4 k6;go_wp2_with fail;exact bodyPost_ret (v:=.bool false) (by simp[results,results6,asAddr,Act.put]) rfl ⟨⟨false,rfl,fun h=>by cases h⟩,HB4.out⟩
end Go.Proofs.YtppjnahcnofokaaGreat.T
namespace Go.Proofs.YtppjnahcnofokaaGreat.T
open Go.RowKit Go.Proofs.YtppjnahcnofokaaGreatW.PrintLast
open Go.Proofs.Tryz
variable{k:IntKind}{a:Act}{b i n B base m fuel D B':Nat}{l ch:List Int}{w w' w1 w2:World}{t:TypeId}{P:Program}{cs xs vs l3:List Value}{A A':Option Addr}{o oi:Oper}{e s f st fl:Int}{ops:Array Oper}{rest l0:List Oper}{v:Value}{r:Option Nat}{rs rs2:List (Option Addr×Nat×Nat×List Int)}{E:Prop}{ad ai go:List Bool}{N:Act->Prop}{place:Nat->Option (Nat×Nat)}{bad:Bool}{es es':List (Int×List Int)}{T:List TypeId}
theorem Below.kp(h:Below B w w1)(hk:Kp T B w1 w2)(hB:B<=w1.heap.size):Below B w w2:=by
 refine⟨hk.os.trans h.os,hk.tape.trans h.tape,hk.output.trans h.output,Nat.le_trans h.size hk.size,fun k hk'=>(hk.low k hk' (Nat.lt_of_lt_of_le hk' hB)).trans (h.block k hk')⟩
theorem AcOk.lift{B1:Nat}{x:AcP}(h:AcOk w B x)(hb:Bl w w1)(hB:B<=B1):AcOk w1 B1 x:=by
 obtain⟨h1,h2,h3,h4,h5,h6⟩:=h.kp (Kp.of_below (T:=[]) (B:=B) hb);refine⟨h1,h2,fun h0=>?_,h4,h5,fun h0=>?_⟩
 · obtain⟨b,o,e,hlt⟩:=h3 h0;exact⟨b,o,e,Nat.lt_of_lt_of_le hlt hB⟩
 obtain⟨b,o,e,hlt⟩:=h6 h0;exact⟨b,o,e,Nat.lt_of_lt_of_le hlt hB⟩
theorem topRises_any(w:World)(A:Option Addr)(n c:Nat)(x:Nat->AcP)(h:ActsR w A n c x):Calls prog 3 #[.slice A n c] w fun r w'=>r=.returned (.bool true)/\Bl w w':=by
 have H:=hd_ h;clear h;go_enter func3,ntmps3
 go_wp2_with fail;refine(actsOk_any w A n c x H.out).mono ?_;rintro _ w1 ⟨⟨q,rfl,hq⟩,hb1⟩;have HB1:=hd_ hb1;have HQ:=hd_ hq;clear hb1 hq;cases q
 · go_wp2_with fail;exact bodyPost_ret (v:=.bool true) (by simp[results,results3,asAddr,Act.put]) rfl ⟨rfl,HB1.out⟩
 go_wp2_with fail;refine(new_any w1).mono ?_;rintro _ w2 ⟨g,d0,x0,rfl,hd0,hb2,-,-,-,hxs0⟩;obtain⟨B,hB⟩:=ex_ (w1.heap.size);rw[<-hB]at hd0 hb2;have hbB:w.heap.size<=B:=by rw[hB];exact HB1.out.size
 have H2:=hd_ hd0;have HB2:Hid (Bl w w2):=HB1.out.trans (hb2.mono hbB);have HL:Hid (B<=w2.heap.size):=by rw[hB];exact hb2.size
 have HBB:=hd_ hbB;have HS0:Hid (d0.xs.length<=0):=by rw[hxs0];exact Nat.le_refl _
 have HOk:Hid (∀i,i<n->i<45->AcOk w2 B (x i)):=fun i h1 h2=>(H.out.ok h1 (HQ.out trivial i h1 h2).1 (HQ.out trivial i h1 h2).2).lift HB2.out hbB;have HLT:Hid (0<n->∃b o,A=some ⟨b,o,none⟩/\b<B/\b<w2.heap.size/\∀i,i<n->w2.rangeAt b (o+i*7) (acC (x i))):=fun h0=>by obtain⟨b,o,e,hlt,hr⟩:=H.out.at_ h0;exact⟨b,o,e,Nat.lt_of_lt_of_le hlt hbB,Nat.lt_of_lt_of_le hlt HB2.out.size,fun i hi j v hv=>(HB2.out.cell (p:=⟨b,o+i*7+j,none⟩) hlt).trans (hr i hi j v hv)⟩
 clear hd0 hb2 hB hbB hxs0 HB1 HQ;go_wp2_with fail;go_loopw [4] (fun v wr=>∃i:Nat,v=.int .i64 i/\i<=45/\Hid (i<=n)/\Hid (∃d,WdAt wr B g 0 d/\d.xs.length<=i)/\Hid (Kp TW B w2 wr)) (fun v _=>45-(intOf v).toNat)
 case atStart=>exact⟨0,rfl,by omega,hd_ (Nat.zero_le _),hd_ ⟨d0,H2.out,HS0.out⟩,hd_ (Kp.refl _ _ _)⟩
 case round=>
  clear H2 HS0
  obtain⟨wa,rfl⟩:=ex_ (wr)
  obtain⟨i,rfl,hi,HI,HD,HKa⟩:=hrel
  by_cases hgo:i<n/\i<45
  rotate_left
  · by_cases hlt:i<n;(· (obtain rfl:i=45:=by omega);go_wp2_with fail;refine(known_any wa).mono ?_;rintro _ w9 ⟨rfl,hb9⟩;go_wp2_with fail;exact bodyPost_ret (v:=.bool true) (by simp[results,results3,asAddr,Act.put]) rfl ⟨rfl,(Below.kp HB2.out (HKa.out.low' HBB.out) HB2.out.size).trans (hb9.mono (Nat.le_trans HB2.out.size HKa.out.size))⟩);(obtain rfl:i=n:=by have:=HI.out;omega);go_wp2_with fail;refine(known_any wa).mono ?_;rintro _ w9 ⟨rfl,hb9⟩;go_wp2_with fail;exact bodyPost_ret (v:=.bool true) (by simp[results,results3,asAddr,Act.put]) rfl ⟨rfl,(Below.kp HB2.out (HKa.out.low' HBB.out) HB2.out.size).trans (hb9.mono (Nat.le_trans HB2.out.size HKa.out.size))⟩
  obtain⟨hlt,h45⟩:=hgo
  obtain⟨b,o,rfl,hbB,hb2,hr⟩:=HLT.out o_
  have hcap:=H.out.cap
  obtain⟨p,hp⟩:=ex_ (x i)
  have HR2:Hid (w2.rangeAt b (o+i*7) (acC p)):=by rw[hp];exact hr i hlt
  have HAc:Hid (AcOk w2 B p):=by rw[hp];exact HOk.out i hlt h45
  obtain⟨wh,hwh⟩:=ex_ (p.wh)
  have HWh:=hd_ hwh
  have HbB:=hd_ hbB
  have Hb2:=hd_ hb2
  clear hr hp hwh hbB hb2 HLT HOk
  obtain⟨d,hd,hdx⟩:=HD.out
  have Hd:=hd_ hd
  have HX:=hd_ hdx
  clear hd hdx HD
  go_wp2_with fail
  refine(parties_any wa B g d Hd.out).mono ?_
  rintro _ wb ⟨⟨A1,c1,rfl,hpw⟩,hdb,hkb⟩
  have HKb:=hd_ (HKa.out.trans hkb)
  have Hdb:=hd_ hdb
  have HPb:=hd_ hpw
  have hrb:wb.rangeAt b (o+i*7) (acC p):=HKb.out.range HR2.out HbB.out Hb2.out
  have HRb:=hd_ hrb
  have HAb:=hd_ (HAc.out.kp HKb.out)
  clear hpw hdb hkb hrb Hd
  go_wp2_with (refine wpList_load_mid rfl 33 (.tmp 31) rr b (o+i*7) rr (acC p) _ HRb.out underlying33 rfl (ac_hi p) ?_)
  refine(step_any wb B g d Hdb.out p HAb.out (by have:=HX.out;omega)).mono ?_
  rintro _ wc ⟨⟨e,rfl,-⟩,d',hdc,hkc,hoth,hown,hxs⟩
  have HKc:=hd_ (HKb.out.trans hkc)
  have Hdc:=hd_ hdc
  have HPc:=hd_ (HPb.out.kp hkc dd dd)
  have HOth:Hid (∀k:Nat,k<8->(k:Int)≠wh->d'.X k=d.X k):=by rw[HWh.out];exact hoth
  have HOwn:=hd_ hown
  have HXs:Hid (d'.xs.length<=i+1):=Nat.le_trans hxs (Nat.succ_le_succ HX.out)
  clear hdc hkc hoth hown hxs HPb Hdb HRb HAb HKb HX
  go_wp2_with fail
  refine(parties_any wc B g d' Hdc.out).mono ?_
  rintro _ wz ⟨⟨A2,c2,rfl,hpn⟩,hdn,hkn⟩
  have HKn:=hd_ (HKc.out.trans hkn)
  have Hdn:=hd_ hdn
  have HPn:=hd_ hpn
  have HPw:=hd_ (HPc.out.kp hkn dd dd)
  have HRn:Hid (wz.rangeAt b (o+i*7) (acC p)):=HKn.out.range HR2.out HbB.out Hb2.out
  have Hbn:Hid (b<wz.heap.size):=Nat.lt_of_lt_of_le Hb2.out HKn.out.size
  have CW:Hid (wz.cell? ⟨b,o+i*7+1,none⟩=some (.int .i64 wh)):=by rw[HWh.out];exact HRn.out 1 _ rfl
  clear hpn hdn hkn HPc Hdc HKc HKa HR2 HAc
  go_wp2_with fail
  go_loopw [7] (fun v wr=>∃k:Nat,v=.int .i64 k/\k<=8/\Hid (Bl wz wr)) (fun v _=>8-(intOf v).toNat)
  case atStart=>exact⟨0,rfl,by omega,hd_ (Below.refl _ _)⟩
  case round=>
   obtain⟨wf,rfl⟩:=ex_ (wr)
   obtain⟨k,rfl,hk,HF⟩:=hrel
   by_cases hk8:k<8
   rotate_left
   · (obtain rfl:k=8:=by omega);go_wp2_with fail;exact⟨⟨i+1,by go_num,by omega,hd_ o_,hd_ ⟨d',Hdn.out.below HF.out,HXs.out⟩,HKn.out.bel HF.out⟩,by simp[intOf];omega⟩
   obtain⟨b1,o1,v1,rfl,hb1,hc1,hv1,hcap1⟩:=HPw.out.at k hk8
   obtain⟨b2,o2,v2,rfl,hb2,hc2,hv2,hcap2⟩:=HPn.out.at k hk8
   have Hb1:=hd_ hb1
   have Hb2':=hd_ hb2
   have HC1:=hd_ hc1
   have HC2:=hd_ hc2
   have HV1:=hd_ hv1
   have HV2:=hd_ hv2
   clear hb1 hb2 hc1 hc2 hv1 hv2
   have kw:wf.cell? ⟨b,o+i*7+1,none⟩=some (.int .i64 wh):=(HF.out.cell (p:=⟨b,o+i*7+1,none⟩) Hbn.out).trans CW.out
   have k1:wf.cell? ⟨b1,o1+k,none⟩=some v1:=(HF.out.cell (p:=⟨b1,o1+k,none⟩) Hb1.out).trans HC1.out
   have k2:wf.cell? ⟨b2,o2+k,none⟩=some v2:=(HF.out.cell (p:=⟨b2,o2+k,none⟩) Hb2'.out).trans HC2.out
   rcases HV1.out with⟨e1,r1⟩|⟨p1,x1,e1,r1,hc1,ho1⟩
   · subst r1;by_cases hkw:(k:Int)=wh;(· subst hkw;go_wp2_with fail;refine pr_ 0 20 (bt 20 0) fun w1d hw1d=>?_;refine mG ?_;(have HF4:Hid (Bl wz w1d):=by rw[<-hw1d];exact HF.out.drew);(have hH:(fun w'=>w'.cell? ⟨b,o+i*7+1,none⟩=some (.int .i64 k)/\w'.cell? ⟨b1,o1+k,none⟩=some (.pointer none)/\w'.cell? ⟨b2,o2+k,none⟩=some (v2)) w1d:=by rw[<-hw1d];exact⟨kw,k1,k2⟩);clear hw1d k1 k2 kw;refine wpAny_of_last (S:=fun w'=>w'.cell? ⟨b,o+i*7+1,none⟩=some (.int .i64 k)/\w'.cell? ⟨b1,o1+k,none⟩=some (.pointer none)/\w'.cell? ⟨b2,o2+k,none⟩=some (v2)) (ds:=[19]) _ _ _ _ ?_;refine ts_ 0 19 1 (bt 20 524287) hH ?_;refine mT3 ?_;refine tl_ 19 ?_;refine mF ?_;clear hH;go_wp2_with fail;exact⟨⟨k+1,by go_num,by omega,HF4⟩,by simp[intOf];omega⟩);have e3:=HOth.out k hk8 hkw;rw[e1]at e3;(rcases HV2.out with⟨_,r2⟩|⟨p2,x2,e2,_⟩);rotate_left;(· rw[e3]at e2;cases e2);subst r2;(have hbne:((k:Int) != wh)=true:=by simp[hkw]);go_wp2_with fail;refine pr_ 0 20 (bt 20 0) fun w1d hw1d=>?_;refine mG ?_;(have HF4:Hid (Bl wz w1d):=by rw[<-hw1d];exact HF.out.drew);(have hH:(fun w'=>w'.cell? ⟨b,o+i*7+1,none⟩=some (.int .i64 wh)/\w'.cell? ⟨b1,o1+k,none⟩=some (.pointer none)/\w'.cell? ⟨b2,o2+k,none⟩=some (.pointer none)) w1d:=by rw[<-hw1d];exact⟨kw,k1,k2⟩);clear hw1d k1 k2 kw;refine wpAny_of_last (S:=fun w'=>w'.cell? ⟨b,o+i*7+1,none⟩=some (.int .i64 wh)/\w'.cell? ⟨b1,o1+k,none⟩=some (.pointer none)/\w'.cell? ⟨b2,o2+k,none⟩=some (.pointer none)) (ds:=[19]) _ _ _ _ ?_;refine ts_ 0 19 1 (bt 20 524287) hH ?_;refine mT3 ?_;refine tl_ 19 ?_;refine mF ?_;clear hH;go_wp2_with fail;exact⟨⟨k+1,by go_num,by omega,HF4⟩,by simp[intOf];omega⟩
   rcases HV2.out with⟨e2,r2⟩|⟨p2,x2,e2,r2,hc2,ho2⟩
   · subst r1;subst r2;by_cases hkw:(k:Int)=wh;(· subst hkw;go_wp2_with fail;refine pr_ 0 20 (bt 20 0) fun w1d hw1d=>?_;refine mG ?_;(have HF4:Hid (Bl wz w1d):=by rw[<-hw1d];exact HF.out.drew);(have hH:(fun w'=>w'.cell? ⟨b,o+i*7+1,none⟩=some (.int .i64 k)/\w'.cell? ⟨b1,o1+k,none⟩=some (.pointer (some ⟨p1,0,none⟩))/\w'.cell? ⟨b2,o2+k,none⟩=some (.pointer none)) w1d:=by rw[<-hw1d];exact⟨kw,k1,k2⟩);clear hw1d k1 k2 kw;refine wpAny_of_last (S:=fun w'=>w'.cell? ⟨b,o+i*7+1,none⟩=some (.int .i64 k)/\w'.cell? ⟨b1,o1+k,none⟩=some (.pointer (some ⟨p1,0,none⟩))/\w'.cell? ⟨b2,o2+k,none⟩=some (.pointer none)) (ds:=[19]) _ _ _ _ ?_;refine ts_ 0 19 1 (bt 20 524287) hH ?_;refine mT3 ?_;refine tl_ 19 ?_;refine mF ?_;clear hH;go_wp2_with fail;exact⟨⟨k+1,by go_num,by omega,HF4⟩,by simp[intOf];omega⟩);have e3:=HOth.out k hk8 hkw;rw[e1,e2]at e3;cases e3
   subst r1
   subst r2
   have HD1:=hd_ hc1
   have HO1:=hd_ ho1
   have HD2:=hd_ hc2
   have HO2:=hd_ ho2
   have E1:=hd_ e1
   have E2:=hd_ e2
   clear hc1 hc2 ho1 ho2 e1 e2
   go_wp2_with fail
   refine pr_ 0 14 (bt 14 0) fun w1d hw1d=>?_
   refine mG ?_
   have HB:Hid (Bl wz w1d):=by rw[<-hw1d];exact HF.out.drew
   have HP:Hid (Cel w1d p1 82 (pyC x1)):=HD1.out.below HB.out HD1.out.lt
   have HN:Hid (Cel w1d p2 82 (pyC x2)):=HD2.out.below HB.out HD2.out.lt
   clear hw1d k1 k2 kw
   refine wpAny_of_last (S:=fun w'=>w'.cell? ⟨b1,o1+k,none⟩=some (.pointer (some ⟨p1,0,none⟩))/\w'.cell? ⟨b2,o2+k,none⟩=some (.pointer (some ⟨p2,0,none⟩))) (ds:=[12,13]) _ _ _ _ ?_
   have hH:(fun w'=>w'.cell? ⟨b1,o1+k,none⟩=some (.pointer (some ⟨p1,0,none⟩))/\w'.cell? ⟨b2,o2+k,none⟩=some (.pointer (some ⟨p2,0,none⟩))) w1d:=⟨(HB.out.cell (p:=⟨b1,o1+k,none⟩) Hb1.out).trans HC1.out,(HB.out.cell (p:=⟨b2,o2+k,none⟩) Hb2'.out).trans HC2.out⟩
   refine ts_ 0 4 10 (bt 14 15) hH ?_
   refine mT2 ?_
   refine ts_ 5 4 6 (bt 14 495) hH ?_
   refine mT2 ?_
   clear hH
   refine join_ (σ:=Nat×Nat) 2 (bt 14 4095) (fun s=>match s with|(b10,b11)=>[(76,.agg (vw x1.e x1.t x1.ad x1.k x1.ch).toArray),(81,.agg (vw x2.e x2.t x2.ad x2.k x2.ch).toArray),(8,.pointer (some ⟨b10,0,none⟩)),(9,.pointer (some ⟨b11,0,none⟩))]) (fun s w'=>match s with|(b10,b11)=>Hid (Bl wz w')/\Hid (Cel w' p1 82 (pyC x1))/\Hid (Cel w' p2 82 (pyC x2))/\Hid (Cel w' b10 45 zvw)/\Hid (wz.heap.size<=b10)/\Hid (Cel w' b11 45 zvw)/\Hid (wz.heap.size<=b11)/\Hid (b10≠b11)) ?_ (fun st0=>?_)
   · rintro⟨b10,b11⟩ wc ⟨HB,HP,HN,HA,HAb,HE,HEb,HNe⟩;refine mE ?_;have hH:=trivial;refine tl_ 12 ?_;refine mF ?_;clear hH;have hne:=HNe.out;have bA:=HAb.out;have bE:=HEb.out;refine store_cel rfl 45 (.tmp 8) (.tmp 76) rr b10 0 45 [] (zvw) [] ((vw x1.e x1.t x1.ad x1.k x1.ch)) rr rr (by simpa using HA.out) rfl (by rw[show zvw.length=73 from vw_len zvOk,vw_len HO1.out.vw]) (vw_hi HO1.out.vw) (all_oneCell_toArray (vw_all _ _ _ _ _)) ?_;intro w3 hS1 hG1;have HA3:Hid (Cel w3 b10 45 (vw x1.e x1.t x1.ad x1.k x1.ch)):=hd_ (by simpa using hS1);have HE3:=hd_ (HE.out.grown hG1 s1_);have HB3:=hd_ (HB.out.grown hG1 HB.out.size (fun k hk=>by cases hk;omega));clear hS1 hG1 HA HE HB HP HN;refine store_cel rfl 45 (.tmp 9) (.tmp 81) rr b11 0 45 [] (zvw) [] ((vw x2.e x2.t x2.ad x2.k x2.ch)) rr rr (by simpa using HE3.out) rfl (by rw[show zvw.length=73 from vw_len zvOk,vw_len HO2.out.vw]) (vw_hi HO2.out.vw) (all_oneCell_toArray (vw_all _ _ _ _ _)) ?_;intro w4 hS2 hG2;have HE4:Hid (Cel w4 b11 45 (vw x2.e x2.t x2.ad x2.k x2.ch)):=hd_ (by simpa using hS2);have HA4:=hd_ (HA3.out.grown hG2 s1_);have HB4:=hd_ (HB3.out.grown hG2 HB3.out.size (fun k hk=>by cases hk;omega));clear hS2 hG2 HA3 HE3 HB3 hne bA bE;obtain⟨q,hq1,hq2⟩:=neq45 (e:=x1.e) (k:=x1.k) (e':=x2.e) (k':=x2.k) HO1.out.vw HO2.out.vw w4;have HQ:=hd_ hq1;clear hq1;(cases q)
     · clear hq2
       go_wp2_with (first
        | (refine wpList_load_mid rfl 45 (.tmp 8) rr b10 0 rr (vw x1.e x1.t x1.ad x1.k x1.ch) _ HA4.out.all underlying45 rfl (vw_hi HO1.out.vw) ?_)
        | (refine wpList_load_mid rfl 45 (.tmp 9) rr b11 0 rr (vw x2.e x2.t x2.ad x2.k x2.ch) _ HE4.out.all underlying45 rfl (vw_hi HO2.out.vw) ?_)
        | (refine wpList_cmp rfl .neq 45 45 (.tmp 82) (.tmp 83) rfl _ _ _ rr rr gd45 HQ.out ?_))
       exact⟨⟨k+1,by go_num,by omega,HB4⟩,by simp[intOf];omega⟩
     · (have hxx:x2≠x1:=fun h=>by subst h;exact absurd (hq2 rfl) dd);(have hkw:(k:Int)=wh:=by apply Classical.byContradiction;intro h;have e3:=HOth.out k hk8 h;rw[E1.out,E2.out]at e3;(injection e3 with e3);exact hxx e3);have hE:x2.e=wrap64 (x1.e+1):=(HOwn.out k hk8 x1 x2 E1.out E2.out).resolve_left hxx;have kw:w4.cell? ⟨b,o+i*7+1,none⟩=some (.int .i64 wh):=(HB4.out.cell (p:=⟨b,o+i*7+1,none⟩) Hbn.out).trans CW.out;have k1:w4.cell? ⟨b10,0,none⟩=some (.int .i64 x1.e):=(HA4.out.cell 0).trans rfl;(have k2:w4.cell? ⟨b11,0,none⟩=some (.int .i64 (wrap64 (x1.e+1))):=by rw[<-hE];exact(HE4.out.cell 0).trans rfl);subst hkw;clear hq2 hxx hE
       go_wp2_with (first
        | (refine wpList_load_mid rfl 45 (.tmp 8) rr b10 0 rr (vw x1.e x1.t x1.ad x1.k x1.ch) _ HA4.out.all underlying45 rfl (vw_hi HO1.out.vw) ?_)
        | (refine wpList_load_mid rfl 45 (.tmp 9) rr b11 0 rr (vw x2.e x2.t x2.ad x2.k x2.ch) _ HE4.out.all underlying45 rfl (vw_hi HO2.out.vw) ?_)
        | (refine wpList_cmp rfl .neq 45 45 (.tmp 82) (.tmp 83) rfl _ _ _ rr rr gd45 HQ.out ?_))
       exact⟨⟨k+1,by go_num,by omega,HB4⟩,by simp[intOf];omega⟩
   refine join_ (σ:=Nat) 3 (bt 14 2047) (fun s=>match s with|b10=>[(76,.agg (vw x1.e x1.t x1.ad x1.k x1.ch).toArray),(81,.agg (vw x2.e x2.t x2.ad x2.k x2.ch).toArray),(8,.pointer (some ⟨b10,0,none⟩))]) (fun s w'=>match s with|b10=>Hid (Bl wz w')/\Hid (Cel w' p1 82 (pyC x1))/\Hid (Cel w' p2 82 (pyC x2))/\Hid (Cel w' b10 45 zvw)/\Hid (wz.heap.size<=b10)) ?_ (fun st1=>?_)
   · rintro b10 wc ⟨HB,HP,HN,HA,HAb⟩;refine mE ?_;have hH:=trivial;refine one_ (i:=11) (N:=some 9) (bt 14 4095) rfl rfl kk dd (fun K hK=>?_);obtain⟨wn,hwn⟩:=ex_ (wc.alloc (.cells (zvw).toArray 45));refine value_ rr rfl (v:=.pointer (some ⟨wc.heap.size,0,none⟩)) (w1:=wn) (vv hwn) ?_;have hbn:=nb_ hwn;obtain⟨b11,hb11⟩:=ex_ (wc.heap.size);(have HE:Hid (Cel wn b11 45 zvw):=by rw[hwn,hb11];exact Cel.new _ rfl rfl);(have HEb:Hid (wz.heap.size<=b11):=by rw[hb11];exact HB.out.size);rw[<-hb11];have HQ11:=hd_ hb11;clear hwn hb11;have HBn:=tb_ HB hbn;have HPn:=hd_ (HP.out.below hbn HP.out.lt);have HNn:=hd_ (HN.out.below hbn HN.out.lt);have HAn:=hd_ (HA.out.below hbn HA.out.lt);have HAbn:=hd_ (HAb.out);refine hK.out _ _ (⟨(HBn.out.cell (p:=⟨b1,o1+k,none⟩) Hb1.out).trans HC1.out,(HBn.out.cell (p:=⟨b2,o2+k,none⟩) Hb2'.out).trans HC2.out⟩) (fun hH=>?_);refine mN ?_;(have HNe:Hid (b10≠b11):=by have h1:=HA.out.lt;have h2:=HQ11.out;exact hd_ o_);exact mH (st0 (b10,b11) wn ⟨HBn,HPn,HNn,HAn,HAbn,HE,HEb,HNe⟩)
   refine join_ (σ:=Nat) 3 (bt 14 3071) (fun s=>match s with|b11=>[(76,.agg (vw x1.e x1.t x1.ad x1.k x1.ch).toArray),(81,.agg (vw x2.e x2.t x2.ad x2.k x2.ch).toArray),(9,.pointer (some ⟨b11,0,none⟩))]) (fun s w'=>match s with|b11=>Hid (Bl wz w')/\Hid (Cel w' p1 82 (pyC x1))/\Hid (Cel w' p2 82 (pyC x2))/\Hid (Cel w' b11 45 zvw)/\Hid (wz.heap.size<=b11)) ?_ (fun st2=>?_)
   · rintro b11 wc ⟨HB,HP,HN,HE,HEb⟩;refine mE ?_;have hH:=trivial;refine one_ (i:=10) (N:=some 8) (bt 14 4095) rfl rfl kk dd (fun K hK=>?_);obtain⟨wn,hwn⟩:=ex_ (wc.alloc (.cells (zvw).toArray 45));refine value_ rr rfl (v:=.pointer (some ⟨wc.heap.size,0,none⟩)) (w1:=wn) (vv hwn) ?_;have hbn:=nb_ hwn;obtain⟨b10,hb10⟩:=ex_ (wc.heap.size);(have HA:Hid (Cel wn b10 45 zvw):=by rw[hwn,hb10];exact Cel.new _ rfl rfl);(have HAb:Hid (wz.heap.size<=b10):=by rw[hb10];exact HB.out.size);rw[<-hb10];have HQ10:=hd_ hb10;clear hwn hb10;have HBn:=tb_ HB hbn;have HPn:=hd_ (HP.out.below hbn HP.out.lt);have HNn:=hd_ (HN.out.below hbn HN.out.lt);have HEn:=hd_ (HE.out.below hbn HE.out.lt);have HEbn:=hd_ (HEb.out);refine hK.out _ _ (⟨(HBn.out.cell (p:=⟨b1,o1+k,none⟩) Hb1.out).trans HC1.out,(HBn.out.cell (p:=⟨b2,o2+k,none⟩) Hb2'.out).trans HC2.out⟩) (fun hH=>?_);refine mN ?_;(have HNe:Hid (b10≠b11):=by have h1:=HE.out.lt;have h2:=HQ10.out;exact hd_ o_);exact mH (st0 (b10,b11) wn ⟨HBn,HPn,HNn,HA,HAb,HEn,HEbn,HNe⟩)
   refine join_ (σ:=Nat×Nat) 3 (bt 14 3583) (fun s=>match s with|(b10,b11)=>[(76,.agg (vw x1.e x1.t x1.ad x1.k x1.ch).toArray),(8,.pointer (some ⟨b10,0,none⟩)),(9,.pointer (some ⟨b11,0,none⟩))]) (fun s w'=>match s with|(b10,b11)=>Hid (Bl wz w')/\Hid (Cel w' p1 82 (pyC x1))/\Hid (Cel w' p2 82 (pyC x2))/\Hid (Cel w' b10 45 zvw)/\Hid (wz.heap.size<=b10)/\Hid (Cel w' b11 45 zvw)/\Hid (wz.heap.size<=b11)/\Hid (b10≠b11)) ?_ (fun st3=>?_)
   · rintro⟨b10,b11⟩ wc ⟨HB,HP,HN,HA,HAb,HE,HEb,HNe⟩;refine mE ?_;have hH:=trivial;refine one_ (i:=9) (N:=some 81) (bt 14 4095) rfl rfl kk dd (fun K hK=>?_);skip;refine goes_ func10 kk rfl #[.pointer (some ⟨p2,0,none⟩)] rr rfl rfl mL ?_;refine(view_p_any p2 x2 _ HN.out HO2.out).mono ?_;rintro _ wn ⟨rfl,hbn⟩;refine⟨_,rfl,?_⟩;have HBn:=tb_ HB hbn;have HPn:=hd_ (HP.out.below hbn HP.out.lt);have HNn:=hd_ (HN.out.below hbn HN.out.lt);have HAn:=hd_ (HA.out.below hbn HA.out.lt);have HAbn:=hd_ (HAb.out);have HEn:=hd_ (HE.out.below hbn HE.out.lt);have HEbn:=hd_ (HEb.out);have HNen:=hd_ (HNe.out);refine hK.out _ _ (⟨(HBn.out.cell (p:=⟨b1,o1+k,none⟩) Hb1.out).trans HC1.out,(HBn.out.cell (p:=⟨b2,o2+k,none⟩) Hb2'.out).trans HC2.out⟩) (fun hH=>?_);refine mN ?_;exact mH (st0 (b10,b11) wn ⟨HBn,HPn,HNn,HAn,HAbn,HEn,HEbn,HNen⟩)
   refine join_ (σ:=Unit) 4 (bt 14 1023) (fun s=>match s with|()=>[(76,.agg (vw x1.e x1.t x1.ad x1.k x1.ch).toArray),(81,.agg (vw x2.e x2.t x2.ad x2.k x2.ch).toArray)]) (fun s w'=>match s with|()=>Hid (Bl wz w')/\Hid (Cel w' p1 82 (pyC x1))/\Hid (Cel w' p2 82 (pyC x2))) ?_ (fun st4=>?_)
   · rintro _ wc ⟨HB,HP,HN⟩;refine mE ?_;have hH:=trivial;refine two_ (i:=10) (j:=11) (Ni:=some 8) (Nj:=some 9) (bt 14 2047) (bt 14 3071) rfl rfl rfl rfl kk dd dd (fun K hK=>?_) (fun K hK=>?_);(· obtain⟨wn,hwn⟩:=ex_ (wc.alloc (.cells (zvw).toArray 45));refine value_ rr rfl (v:=.pointer (some ⟨wc.heap.size,0,none⟩)) (w1:=wn) (vv hwn) ?_;have hbn:=nb_ hwn;obtain⟨b10,hb10⟩:=ex_ (wc.heap.size);(have HA:Hid (Cel wn b10 45 zvw):=by rw[hwn,hb10];exact Cel.new _ rfl rfl);(have HAb:Hid (wz.heap.size<=b10):=by rw[hb10];exact HB.out.size);rw[<-hb10];have HQ10:=hd_ hb10;clear hwn hb10;have HBn:=tb_ HB hbn;have HPn:=hd_ (HP.out.below hbn HP.out.lt);have HNn:=hd_ (HN.out.below hbn HN.out.lt);refine hK.out _ _ (⟨(HBn.out.cell (p:=⟨b1,o1+k,none⟩) Hb1.out).trans HC1.out,(HBn.out.cell (p:=⟨b2,o2+k,none⟩) Hb2'.out).trans HC2.out⟩) (fun hH=>?_);refine mN ?_;exact mH (st1 b10 wn ⟨HBn,HPn,HNn,HA,HAb⟩));obtain⟨wn,hwn⟩:=ex_ (wc.alloc (.cells (zvw).toArray 45));refine value_ rr rfl (v:=.pointer (some ⟨wc.heap.size,0,none⟩)) (w1:=wn) (vv hwn) ?_;have hbn:=nb_ hwn;obtain⟨b11,hb11⟩:=ex_ (wc.heap.size);(have HE:Hid (Cel wn b11 45 zvw):=by rw[hwn,hb11];exact Cel.new _ rfl rfl);(have HEb:Hid (wz.heap.size<=b11):=by rw[hb11];exact HB.out.size);rw[<-hb11];have HQ11:=hd_ hb11;clear hwn hb11;have HBn:=tb_ HB hbn;have HPn:=hd_ (HP.out.below hbn HP.out.lt);have HNn:=hd_ (HN.out.below hbn HN.out.lt);refine hK.out _ _ (⟨(HBn.out.cell (p:=⟨b1,o1+k,none⟩) Hb1.out).trans HC1.out,(HBn.out.cell (p:=⟨b2,o2+k,none⟩) Hb2'.out).trans HC2.out⟩) (fun hH=>?_);refine mN ?_;exact mH (st2 b11 wn ⟨HBn,HPn,HNn,HE,HEb⟩)
   refine join_ (σ:=Nat) 4 (bt 14 1535) (fun s=>match s with|b10=>[(76,.agg (vw x1.e x1.t x1.ad x1.k x1.ch).toArray),(8,.pointer (some ⟨b10,0,none⟩))]) (fun s w'=>match s with|b10=>Hid (Bl wz w')/\Hid (Cel w' p1 82 (pyC x1))/\Hid (Cel w' p2 82 (pyC x2))/\Hid (Cel w' b10 45 zvw)/\Hid (wz.heap.size<=b10)) ?_ (fun st5=>?_)
   · rintro b10 wc ⟨HB,HP,HN,HA,HAb⟩;refine mE ?_;have hH:=trivial;refine two_ (i:=9) (j:=11) (Ni:=some 81) (Nj:=some 9) (bt 14 2047) (bt 14 3583) rfl rfl rfl rfl kk dd dd (fun K hK=>?_) (fun K hK=>?_);(· skip;refine goes_ func10 kk rfl #[.pointer (some ⟨p2,0,none⟩)] rr rfl rfl mL ?_;refine(view_p_any p2 x2 _ HN.out HO2.out).mono ?_;rintro _ wn ⟨rfl,hbn⟩;refine⟨_,rfl,?_⟩;have HBn:=tb_ HB hbn;have HPn:=hd_ (HP.out.below hbn HP.out.lt);have HNn:=hd_ (HN.out.below hbn HN.out.lt);have HAn:=hd_ (HA.out.below hbn HA.out.lt);have HAbn:=hd_ (HAb.out);refine hK.out _ _ (⟨(HBn.out.cell (p:=⟨b1,o1+k,none⟩) Hb1.out).trans HC1.out,(HBn.out.cell (p:=⟨b2,o2+k,none⟩) Hb2'.out).trans HC2.out⟩) (fun hH=>?_);refine mN ?_;exact mH (st1 b10 wn ⟨HBn,HPn,HNn,HAn,HAbn⟩));obtain⟨wn,hwn⟩:=ex_ (wc.alloc (.cells (zvw).toArray 45));refine value_ rr rfl (v:=.pointer (some ⟨wc.heap.size,0,none⟩)) (w1:=wn) (vv hwn) ?_;have hbn:=nb_ hwn;obtain⟨b11,hb11⟩:=ex_ (wc.heap.size);(have HE:Hid (Cel wn b11 45 zvw):=by rw[hwn,hb11];exact Cel.new _ rfl rfl);(have HEb:Hid (wz.heap.size<=b11):=by rw[hb11];exact HB.out.size);rw[<-hb11];have HQ11:=hd_ hb11;clear hwn hb11;have HBn:=tb_ HB hbn;have HPn:=hd_ (HP.out.below hbn HP.out.lt);have HNn:=hd_ (HN.out.below hbn HN.out.lt);have HAn:=hd_ (HA.out.below hbn HA.out.lt);have HAbn:=hd_ (HAb.out);refine hK.out _ _ (⟨(HBn.out.cell (p:=⟨b1,o1+k,none⟩) Hb1.out).trans HC1.out,(HBn.out.cell (p:=⟨b2,o2+k,none⟩) Hb2'.out).trans HC2.out⟩) (fun hH=>?_);refine mN ?_;(have HNe:Hid (b10≠b11):=by have h1:=HA.out.lt;have h2:=HQ11.out;exact hd_ o_);exact mH (st3 (b10,b11) wn ⟨HBn,HPn,HNn,HAn,HAbn,HE,HEb,HNe⟩)
   refine join_ (σ:=Nat) 4 (bt 14 2559) (fun s=>match s with|b11=>[(76,.agg (vw x1.e x1.t x1.ad x1.k x1.ch).toArray),(9,.pointer (some ⟨b11,0,none⟩))]) (fun s w'=>match s with|b11=>Hid (Bl wz w')/\Hid (Cel w' p1 82 (pyC x1))/\Hid (Cel w' p2 82 (pyC x2))/\Hid (Cel w' b11 45 zvw)/\Hid (wz.heap.size<=b11)) ?_ (fun st6=>?_)
   · rintro b11 wc ⟨HB,HP,HN,HE,HEb⟩;refine mE ?_;have hH:=trivial;refine two_ (i:=9) (j:=10) (Ni:=some 81) (Nj:=some 8) (bt 14 3071) (bt 14 3583) rfl rfl rfl rfl kk dd dd (fun K hK=>?_) (fun K hK=>?_);(· skip;refine goes_ func10 kk rfl #[.pointer (some ⟨p2,0,none⟩)] rr rfl rfl mL ?_;refine(view_p_any p2 x2 _ HN.out HO2.out).mono ?_;rintro _ wn ⟨rfl,hbn⟩;refine⟨_,rfl,?_⟩;have HBn:=tb_ HB hbn;have HPn:=hd_ (HP.out.below hbn HP.out.lt);have HNn:=hd_ (HN.out.below hbn HN.out.lt);have HEn:=hd_ (HE.out.below hbn HE.out.lt);have HEbn:=hd_ (HEb.out);refine hK.out _ _ (⟨(HBn.out.cell (p:=⟨b1,o1+k,none⟩) Hb1.out).trans HC1.out,(HBn.out.cell (p:=⟨b2,o2+k,none⟩) Hb2'.out).trans HC2.out⟩) (fun hH=>?_);refine mN ?_;exact mH (st2 b11 wn ⟨HBn,HPn,HNn,HEn,HEbn⟩));obtain⟨wn,hwn⟩:=ex_ (wc.alloc (.cells (zvw).toArray 45));refine value_ rr rfl (v:=.pointer (some ⟨wc.heap.size,0,none⟩)) (w1:=wn) (vv hwn) ?_;have hbn:=nb_ hwn;obtain⟨b10,hb10⟩:=ex_ (wc.heap.size);(have HA:Hid (Cel wn b10 45 zvw):=by rw[hwn,hb10];exact Cel.new _ rfl rfl);(have HAb:Hid (wz.heap.size<=b10):=by rw[hb10];exact HB.out.size);rw[<-hb10];have HQ10:=hd_ hb10;clear hwn hb10;have HBn:=tb_ HB hbn;have HPn:=hd_ (HP.out.below hbn HP.out.lt);have HNn:=hd_ (HN.out.below hbn HN.out.lt);have HEn:=hd_ (HE.out.below hbn HE.out.lt);have HEbn:=hd_ (HEb.out);refine hK.out _ _ (⟨(HBn.out.cell (p:=⟨b1,o1+k,none⟩) Hb1.out).trans HC1.out,(HBn.out.cell (p:=⟨b2,o2+k,none⟩) Hb2'.out).trans HC2.out⟩) (fun hH=>?_);refine mN ?_;(have HNe:Hid (b10≠b11):=by have h1:=HE.out.lt;have h2:=HQ10.out;exact hd_ o_);exact mH (st3 (b10,b11) wn ⟨HBn,HPn,HNn,HA,HAb,HEn,HEbn,HNe⟩)
   refine join_ (σ:=Nat×Nat) 4 (bt 14 3567) (fun s=>match s with|(b10,b11)=>[(8,.pointer (some ⟨b10,0,none⟩)),(9,.pointer (some ⟨b11,0,none⟩))]) (fun s w'=>match s with|(b10,b11)=>Hid (Bl wz w')/\Hid (Cel w' p1 82 (pyC x1))/\Hid (Cel w' p2 82 (pyC x2))/\Hid (Cel w' b10 45 zvw)/\Hid (wz.heap.size<=b10)/\Hid (Cel w' b11 45 zvw)/\Hid (wz.heap.size<=b11)/\Hid (b10≠b11)) ?_ (fun st7=>?_)
   · rintro⟨b10,b11⟩ wc ⟨HB,HP,HN,HA,HAb,HE,HEb,HNe⟩;refine mE ?_;have hH:=trivial;refine one_ (i:=4) (N:=some 76) (bt 14 3583) rfl rfl kk dd (fun K hK=>?_);skip;refine goes_ func10 kk rfl #[.pointer (some ⟨p1,0,none⟩)] rr rfl rfl mL ?_;refine(view_p_any p1 x1 _ HP.out HO1.out).mono ?_;rintro _ wn ⟨rfl,hbn⟩;refine⟨_,rfl,?_⟩;have HBn:=tb_ HB hbn;have HPn:=hd_ (HP.out.below hbn HP.out.lt);have HNn:=hd_ (HN.out.below hbn HN.out.lt);have HAn:=hd_ (HA.out.below hbn HA.out.lt);have HAbn:=hd_ (HAb.out);have HEn:=hd_ (HE.out.below hbn HE.out.lt);have HEbn:=hd_ (HEb.out);have HNen:=hd_ (HNe.out);refine hK.out _ _ (⟨(HBn.out.cell (p:=⟨b1,o1+k,none⟩) Hb1.out).trans HC1.out,(HBn.out.cell (p:=⟨b2,o2+k,none⟩) Hb2'.out).trans HC2.out⟩) (fun hH=>?_);refine mN ?_;exact mH (st3 (b10,b11) wn ⟨HBn,HPn,HNn,HAn,HAbn,HEn,HEbn,HNen⟩)
   refine join_ (σ:=Unit) 5 (bt 14 511) (fun s=>match s with|()=>[(76,.agg (vw x1.e x1.t x1.ad x1.k x1.ch).toArray)]) (fun s w'=>match s with|()=>Hid (Bl wz w')/\Hid (Cel w' p1 82 (pyC x1))/\Hid (Cel w' p2 82 (pyC x2))) ?_ (fun st8=>?_)
   · rintro _ wc ⟨HB,HP,HN⟩;refine mE ?_;have hH:=trivial;refine three_ (i:=9) (j:=10) (k:=11) (Ni:=some 81) (Nj:=some 8) (Nk:=some 9) (bt 14 1023) (bt 14 1535) (bt 14 2559) rfl rfl rfl rfl rfl rfl kk dd dd dd (fun K hK=>?_) (fun K hK=>?_) (fun K hK=>?_);(· skip;refine goes_ func10 kk rfl #[.pointer (some ⟨p2,0,none⟩)] rr rfl rfl mL ?_;refine(view_p_any p2 x2 _ HN.out HO2.out).mono ?_;rintro _ wn ⟨rfl,hbn⟩;refine⟨_,rfl,?_⟩;have HBn:=tb_ HB hbn;have HPn:=hd_ (HP.out.below hbn HP.out.lt);have HNn:=hd_ (HN.out.below hbn HN.out.lt);refine hK.out _ _ (⟨(HBn.out.cell (p:=⟨b1,o1+k,none⟩) Hb1.out).trans HC1.out,(HBn.out.cell (p:=⟨b2,o2+k,none⟩) Hb2'.out).trans HC2.out⟩) (fun hH=>?_);refine mN ?_;exact mH (st4 () wn ⟨HBn,HPn,HNn⟩));(· obtain⟨wn,hwn⟩:=ex_ (wc.alloc (.cells (zvw).toArray 45));refine value_ rr rfl (v:=.pointer (some ⟨wc.heap.size,0,none⟩)) (w1:=wn) (vv hwn) ?_;have hbn:=nb_ hwn;obtain⟨b10,hb10⟩:=ex_ (wc.heap.size);(have HA:Hid (Cel wn b10 45 zvw):=by rw[hwn,hb10];exact Cel.new _ rfl rfl);(have HAb:Hid (wz.heap.size<=b10):=by rw[hb10];exact HB.out.size);rw[<-hb10];have HQ10:=hd_ hb10;clear hwn hb10;have HBn:=tb_ HB hbn;have HPn:=hd_ (HP.out.below hbn HP.out.lt);have HNn:=hd_ (HN.out.below hbn HN.out.lt);refine hK.out _ _ (⟨(HBn.out.cell (p:=⟨b1,o1+k,none⟩) Hb1.out).trans HC1.out,(HBn.out.cell (p:=⟨b2,o2+k,none⟩) Hb2'.out).trans HC2.out⟩) (fun hH=>?_);refine mN ?_;exact mH (st5 b10 wn ⟨HBn,HPn,HNn,HA,HAb⟩));obtain⟨wn,hwn⟩:=ex_ (wc.alloc (.cells (zvw).toArray 45));refine value_ rr rfl (v:=.pointer (some ⟨wc.heap.size,0,none⟩)) (w1:=wn) (vv hwn) ?_;have hbn:=nb_ hwn;obtain⟨b11,hb11⟩:=ex_ (wc.heap.size);(have HE:Hid (Cel wn b11 45 zvw):=by rw[hwn,hb11];exact Cel.new _ rfl rfl);(have HEb:Hid (wz.heap.size<=b11):=by rw[hb11];exact HB.out.size);rw[<-hb11];have HQ11:=hd_ hb11;clear hwn hb11;have HBn:=tb_ HB hbn;have HPn:=hd_ (HP.out.below hbn HP.out.lt);have HNn:=hd_ (HN.out.below hbn HN.out.lt);refine hK.out _ _ (⟨(HBn.out.cell (p:=⟨b1,o1+k,none⟩) Hb1.out).trans HC1.out,(HBn.out.cell (p:=⟨b2,o2+k,none⟩) Hb2'.out).trans HC2.out⟩) (fun hH=>?_);refine mN ?_;exact mH (st6 b11 wn ⟨HBn,HPn,HNn,HE,HEb⟩)
   refine join_ (σ:=Nat) 5 (bt 14 1519) (fun s=>match s with|b10=>[(8,.pointer (some ⟨b10,0,none⟩))]) (fun s w'=>match s with|b10=>Hid (Bl wz w')/\Hid (Cel w' p1 82 (pyC x1))/\Hid (Cel w' p2 82 (pyC x2))/\Hid (Cel w' b10 45 zvw)/\Hid (wz.heap.size<=b10)) ?_ (fun st9=>?_)
   · rintro b10 wc ⟨HB,HP,HN,HA,HAb⟩;refine mE ?_;have hH:=trivial;refine two_ (i:=4) (j:=11) (Ni:=some 76) (Nj:=some 9) (bt 14 1535) (bt 14 3567) rfl rfl rfl rfl kk dd dd (fun K hK=>?_) (fun K hK=>?_);(· skip;refine goes_ func10 kk rfl #[.pointer (some ⟨p1,0,none⟩)] rr rfl rfl mL ?_;refine(view_p_any p1 x1 _ HP.out HO1.out).mono ?_;rintro _ wn ⟨rfl,hbn⟩;refine⟨_,rfl,?_⟩;have HBn:=tb_ HB hbn;have HPn:=hd_ (HP.out.below hbn HP.out.lt);have HNn:=hd_ (HN.out.below hbn HN.out.lt);have HAn:=hd_ (HA.out.below hbn HA.out.lt);have HAbn:=hd_ (HAb.out);refine hK.out _ _ (⟨(HBn.out.cell (p:=⟨b1,o1+k,none⟩) Hb1.out).trans HC1.out,(HBn.out.cell (p:=⟨b2,o2+k,none⟩) Hb2'.out).trans HC2.out⟩) (fun hH=>?_);refine mN ?_;exact mH (st5 b10 wn ⟨HBn,HPn,HNn,HAn,HAbn⟩));obtain⟨wn,hwn⟩:=ex_ (wc.alloc (.cells (zvw).toArray 45));refine value_ rr rfl (v:=.pointer (some ⟨wc.heap.size,0,none⟩)) (w1:=wn) (vv hwn) ?_;have hbn:=nb_ hwn;obtain⟨b11,hb11⟩:=ex_ (wc.heap.size);(have HE:Hid (Cel wn b11 45 zvw):=by rw[hwn,hb11];exact Cel.new _ rfl rfl);(have HEb:Hid (wz.heap.size<=b11):=by rw[hb11];exact HB.out.size);rw[<-hb11];have HQ11:=hd_ hb11;clear hwn hb11;have HBn:=tb_ HB hbn;have HPn:=hd_ (HP.out.below hbn HP.out.lt);have HNn:=hd_ (HN.out.below hbn HN.out.lt);have HAn:=hd_ (HA.out.below hbn HA.out.lt);have HAbn:=hd_ (HAb.out);refine hK.out _ _ (⟨(HBn.out.cell (p:=⟨b1,o1+k,none⟩) Hb1.out).trans HC1.out,(HBn.out.cell (p:=⟨b2,o2+k,none⟩) Hb2'.out).trans HC2.out⟩) (fun hH=>?_);refine mN ?_;(have HNe:Hid (b10≠b11):=by have h1:=HA.out.lt;have h2:=HQ11.out;exact hd_ o_);exact mH (st7 (b10,b11) wn ⟨HBn,HPn,HNn,HAn,HAbn,HE,HEb,HNe⟩)
   refine join_ (σ:=Nat) 5 (bt 14 2543) (fun s=>match s with|b11=>[(9,.pointer (some ⟨b11,0,none⟩))]) (fun s w'=>match s with|b11=>Hid (Bl wz w')/\Hid (Cel w' p1 82 (pyC x1))/\Hid (Cel w' p2 82 (pyC x2))/\Hid (Cel w' b11 45 zvw)/\Hid (wz.heap.size<=b11)) ?_ (fun st10=>?_)
   · rintro b11 wc ⟨HB,HP,HN,HE,HEb⟩;refine mE ?_;have hH:=trivial;refine two_ (i:=4) (j:=10) (Ni:=some 76) (Nj:=some 8) (bt 14 2559) (bt 14 3567) rfl rfl rfl rfl kk dd dd (fun K hK=>?_) (fun K hK=>?_);(· skip;refine goes_ func10 kk rfl #[.pointer (some ⟨p1,0,none⟩)] rr rfl rfl mL ?_;refine(view_p_any p1 x1 _ HP.out HO1.out).mono ?_;rintro _ wn ⟨rfl,hbn⟩;refine⟨_,rfl,?_⟩;have HBn:=tb_ HB hbn;have HPn:=hd_ (HP.out.below hbn HP.out.lt);have HNn:=hd_ (HN.out.below hbn HN.out.lt);have HEn:=hd_ (HE.out.below hbn HE.out.lt);have HEbn:=hd_ (HEb.out);refine hK.out _ _ (⟨(HBn.out.cell (p:=⟨b1,o1+k,none⟩) Hb1.out).trans HC1.out,(HBn.out.cell (p:=⟨b2,o2+k,none⟩) Hb2'.out).trans HC2.out⟩) (fun hH=>?_);refine mN ?_;exact mH (st6 b11 wn ⟨HBn,HPn,HNn,HEn,HEbn⟩));obtain⟨wn,hwn⟩:=ex_ (wc.alloc (.cells (zvw).toArray 45));refine value_ rr rfl (v:=.pointer (some ⟨wc.heap.size,0,none⟩)) (w1:=wn) (vv hwn) ?_;have hbn:=nb_ hwn;obtain⟨b10,hb10⟩:=ex_ (wc.heap.size);(have HA:Hid (Cel wn b10 45 zvw):=by rw[hwn,hb10];exact Cel.new _ rfl rfl);(have HAb:Hid (wz.heap.size<=b10):=by rw[hb10];exact HB.out.size);rw[<-hb10];have HQ10:=hd_ hb10;clear hwn hb10;have HBn:=tb_ HB hbn;have HPn:=hd_ (HP.out.below hbn HP.out.lt);have HNn:=hd_ (HN.out.below hbn HN.out.lt);have HEn:=hd_ (HE.out.below hbn HE.out.lt);have HEbn:=hd_ (HEb.out);refine hK.out _ _ (⟨(HBn.out.cell (p:=⟨b1,o1+k,none⟩) Hb1.out).trans HC1.out,(HBn.out.cell (p:=⟨b2,o2+k,none⟩) Hb2'.out).trans HC2.out⟩) (fun hH=>?_);refine mN ?_;(have HNe:Hid (b10≠b11):=by have h1:=HE.out.lt;have h2:=HQ10.out;exact hd_ o_);exact mH (st7 (b10,b11) wn ⟨HBn,HPn,HNn,HA,HAb,HEn,HEbn,HNe⟩)
   have hH:=trivial
   refine three_ (i:=4) (j:=10) (k:=11) (Ni:=some 76) (Nj:=some 8) (Nk:=some 9) (bt 14 511) (bt 14 1519) (bt 14 2543) rfl rfl rfl rfl rfl rfl kk dd dd dd (fun K hK=>?_) (fun K hK=>?_) (fun K hK=>?_)
   · skip;refine goes_ func10 kk rfl #[.pointer (some ⟨p1,0,none⟩)] rr rfl rfl mL ?_;refine(view_p_any p1 x1 _ HP.out HO1.out).mono ?_;rintro _ wn ⟨rfl,hbn⟩;refine⟨_,rfl,?_⟩;have HBn:=tb_ HB hbn;have HPn:=hd_ (HP.out.below hbn HP.out.lt);have HNn:=hd_ (HN.out.below hbn HN.out.lt);refine hK.out _ _ (⟨(HBn.out.cell (p:=⟨b1,o1+k,none⟩) Hb1.out).trans HC1.out,(HBn.out.cell (p:=⟨b2,o2+k,none⟩) Hb2'.out).trans HC2.out⟩) (fun hH=>?_);refine mN ?_;exact mH (st8 () wn ⟨HBn,HPn,HNn⟩)
   · obtain⟨wn,hwn⟩:=ex_ (w1d.alloc (.cells (zvw).toArray 45));refine value_ rr rfl (v:=.pointer (some ⟨w1d.heap.size,0,none⟩)) (w1:=wn) (vv hwn) ?_;have hbn:=nb_ hwn;obtain⟨b10,hb10⟩:=ex_ (w1d.heap.size);(have HA:Hid (Cel wn b10 45 zvw):=by rw[hwn,hb10];exact Cel.new _ rfl rfl);(have HAb:Hid (wz.heap.size<=b10):=by rw[hb10];exact HB.out.size);rw[<-hb10];have HQ10:=hd_ hb10;clear hwn hb10;have HBn:=tb_ HB hbn;have HPn:=hd_ (HP.out.below hbn HP.out.lt);have HNn:=hd_ (HN.out.below hbn HN.out.lt);refine hK.out _ _ (⟨(HBn.out.cell (p:=⟨b1,o1+k,none⟩) Hb1.out).trans HC1.out,(HBn.out.cell (p:=⟨b2,o2+k,none⟩) Hb2'.out).trans HC2.out⟩) (fun hH=>?_);refine mN ?_;exact mH (st9 b10 wn ⟨HBn,HPn,HNn,HA,HAb⟩)
   · obtain⟨wn,hwn⟩:=ex_ (w1d.alloc (.cells (zvw).toArray 45));refine value_ rr rfl (v:=.pointer (some ⟨w1d.heap.size,0,none⟩)) (w1:=wn) (vv hwn) ?_;have hbn:=nb_ hwn;obtain⟨b11,hb11⟩:=ex_ (w1d.heap.size);(have HE:Hid (Cel wn b11 45 zvw):=by rw[hwn,hb11];exact Cel.new _ rfl rfl);(have HEb:Hid (wz.heap.size<=b11):=by rw[hb11];exact HB.out.size);rw[<-hb11];have HQ11:=hd_ hb11;clear hwn hb11;have HBn:=tb_ HB hbn;have HPn:=hd_ (HP.out.below hbn HP.out.lt);have HNn:=hd_ (HN.out.below hbn HN.out.lt);refine hK.out _ _ (⟨(HBn.out.cell (p:=⟨b1,o1+k,none⟩) Hb1.out).trans HC1.out,(HBn.out.cell (p:=⟨b2,o2+k,none⟩) Hb2'.out).trans HC2.out⟩) (fun hH=>?_);refine mN ?_;exact mH (st10 b11 wn ⟨HBn,HPn,HNn,HE,HEb⟩)
end Go.Proofs.YtppjnahcnofokaaGreat.T
namespace Go.Proofs.YtppjnahcnofokaaGreat.T
open Go.ChangeShapes Go.WideShapes Go.RowKit Go.Deep
open Go.Proofs.Tryz
variable{k:IntKind}{a:Act}{b i n B base m fuel D B':Nat}{l ch:List Int}{w w' w1 w2:World}{t:TypeId}{P:Program}{cs xs vs l3:List Value}{A A':Option Addr}{o oi:Oper}{e s f st fl:Int}{ops:Array Oper}{rest l0:List Oper}{v:Value}{r:Option Nat}{rs rs2:List (Option Addr×Nat×Nat×List Int)}{E:Prop}{ad ai go:List Bool}{N:Act->Prop}{place:Nat->Option (Nat×Nat)}{bad:Bool}{es es':List (Int×List Int)}{T:List TypeId}
section
variable {H:Type} {enc:TypeId×Value->H} {W:World} {base:Nat} {sp:Nat->Bool} {held:Bool}
theorem weights_all{e:TypeId}:∀{l:List (DataW H)} {d:DataW H},d ∈ l->∀n ∈ d.weights P e,n ∈ DataW.weightsAll P e l
 | d0 :: l,d,hd,n,hn=>by
  simp only[DataW.weightsAll,List.mem_append];rcases List.mem_cons.1 hd with rfl|h
  · exact .inl hn
  exact .inr (weights_all h n hn)
theorem take_one(h:(cs.drop i).take 1=[v]):cs[i]? = some v:=by
 have h0:((cs.drop i).take 1)[0]? = some v:=by rw[h];rfl
 simpa[List.getElem?_take] using h0
theorem int_at{y:DataW H×List MemPlace}(h:DataW.trod enc prog W base sp held m 3 ((cs.drop i).take (prog.cellsOf 3))=some y):∃z,cs[i]? = some (.int .i64 z):=by
 have c3:prog.cellsOf 3=1:=by kernel_rfl
 rw[c3]at h;obtain⟨k,e1,_⟩:=DataW.trod_int underlying3 h;exact⟨k,take_one e1⟩
theorem open_op{x:DataW H×List MemPlace}(h:DataW.trod enc prog W base sp held n 55 cs=some x):∃l:List Int,l.length=5/\cs=ints .i64 l:=by
 obtain⟨xs,m,_,_,hlen,hl,hf⟩:=DataW.trod_struct underlying55 h;have c36:prog.cellsOf 36=2:=by kernel_rfl
 have c55:prog.cellsOf 55=5:=by kernel_rfl
 rw[c55]at hlen;have hl4:xs.length=4:=hl;obtain⟨z0,e0⟩:=int_at ((hf 0 _ rfl).trans (List.getElem?_eq_getElem o_));obtain⟨z1,e1⟩:=int_at ((hf 1 _ rfl).trans (List.getElem?_eq_getElem o_));obtain⟨z2,e2⟩:=int_at ((hf 2 _ rfl).trans (List.getElem?_eq_getElem o_));have g3:DataW.trod enc prog W base sp held m 36 ((cs.drop 3).take (prog.cellsOf 36))=some _:=(hf 3 _ rfl).trans (List.getElem?_eq_getElem o_);rw[c36]at g3;obtain⟨ys,m',_,_,_,hk,hg⟩:=DataW.trod_struct underlying36 g3;have hk2:ys.length=2:=hk;obtain⟨z3,e3⟩:=int_at ((hg 0 _ rfl).trans (List.getElem?_eq_getElem o_));obtain⟨z4,e4⟩:=int_at ((hg 1 _ rfl).trans (List.getElem?_eq_getElem o_));have d3:cs[3]? = some (.int .i64 z3):=by simpa[List.getElem?_take] using e3
 have d4:cs[4]? = some (.int .i64 z4):=by simpa[List.getElem?_take] using e4
 refine⟨[z0,z1,z2,z3,z4],rfl,List.ext_getElem? fun i=>?_⟩
 match i with
 | 0=>exact e0
 | 1=>exact e1
 | 2=>exact e2
 | 3=>exact d3
 | 4=>exact d4
 | j+5=>rw[List.getElem?_eq_none o_,List.getElem?_eq_none (by simp[ints])]
theorem unchunk{α β : Type}(f:α->List β)(m:Nat):∀(zs:List α) (_:∀z ∈ zs,(f z).length=m) (j:Nat) (v:β),(zs.flatMap f)[j]? = some v->∃(i r:Nat) (z:α),zs[i]? = some z/\(f z)[r]? = some v/\j=i*m+r
 | [],_,j,v,h=>by simp at h
 | z :: zs,hz,j,v,h=>by
  have h0:=hz z s_;rw[List.flatMap_cons,List.getElem?_append]at h;split at h
  · exact⟨0,j,z,rfl,h,by omega⟩
  rename_i hj;obtain⟨i,r,y,h1,h2,h3⟩:=unchunk f m zs (fun y hy=>hz y (by simp[hy])) _ v h;exact⟨i+1,r,y,by simpa using h1,h2,by rw[Nat.succ_mul];omega⟩
theorem flat_len{α β : Type}(f:α->List β)(m:Nat):∀(zs:List α) (_:∀z ∈ zs,(f z).length=m),(zs.flatMap f).length=zs.length*m
 | [],_=>by simp
 | z :: zs,h=>by
  rw[List.flatMap_cons,List.length_append,h z s_,flat_len f m zs (fun y hy=>h y (by simp[hy])),List.length_cons,Nat.succ_mul];omega
theorem spot_of{a:Addr}(h:W.cell? a=some v):∃b o,a=⟨b,o,none⟩/\b<W.heap.size:=by
 obtain⟨b,o,spot⟩:=a;have hs:spot=none:=World.cell?_spot h;subst hs;refine⟨b,o,rfl,?_⟩;rcases Nat.lt_or_ge b W.heap.size with h'|h'
 · exact h'
 simp[World.cell?,Array.getElem?_eq_none h']at h
theorem open_ops{y:DataW H×List MemPlace}(h:DataW.trod enc prog W base (fun _=>true) held n 30 [v]=some y)(hw:∀n ∈ y.1.weights prog 30,n<=reachBytes): ∃(A:Option Addr) (len cap:Nat) (l:List Int),v=.slice A len cap/\OpsR W A len cap l/\len<=140737488355328/\LowA A cap W.heap.size:=by
 rcases open_slice underlying30 h with⟨hcs,_⟩|⟨x,l,c,m,n',D,Pl,hcs,_,hl,hm,hmm,ey,hr⟩
 · (obtain rfl:v=.slice none 0 0:=by simpa using hcs);exact⟨none,0,0,[],rfl,⟨rfl,Nat.le_refl _,fun h=>absurd h (Nat.lt_irrefl 0)⟩,by omega,fun h=>absurd h (Nat.lt_irrefl 0)⟩
 obtain rfl:v=.slice (some x) l c:=by simpa using hcs
 have c55:prog.cellsOf 55=5:=by kernel_rfl
 have b55:prog.bytesOf 55=40:=by kernel_rfl
 rw[c55]at hr;simp only[if_true]at hmm;subst hmm;have each:∀i,i<m->∃z:List Int,z.length=5/\∀j v,(ints .i64 z)[j]? = some v->W.cell? ((x.add (i*5)).add j)=some v:=by
  intro i hi;obtain⟨cs',h1,h2⟩:=hr i hi;obtain⟨z,hz,rfl⟩:=open_op h2;obtain⟨_,hlen,hcell⟩:=World.cells?_some h1;refine⟨z,hz,fun j v hv=>?_⟩;have hj:j<5:=by rw[<-hlen];exact(List.getElem?_eq_some_iff.1 hv).1
  rw[hcell j hj,hv]
 obtain⟨f,hfs⟩:=choose_lt each;have hlw:l<=140737488355328:=by have:=hw ((((List.range l).map D).length+((List.range (m-l)).map fun j=>D (l+j)).length)*prog.bytesOf 55) (by rw[ey];simp only[DataW.weights,underlying30,List.mem_cons];exact .inl (by first|rfl|trivial));rw[b55,List.length_map,List.length_range,List.length_map,List.length_range]at this;unfold reachBytes at this;omega
 have hat:0<m->∃b o,x=⟨b,o,none⟩/\b<W.heap.size:=fun h0=>by
  obtain⟨h1,h2⟩:=hfs 0 h0;have hv:(ints .i64 (f 0))[0]? = some (.int .i64 ((f 0)[0]'o_)):=by unfold ints;rw[List.getElem?_map,List.getElem?_eq_getElem o_];rfl
  have:=h2 0 _ hv;rw[Nat.zero_mul]at this;have e:(x.add 0).add 0=x:=by obtain⟨b,o,s⟩:=x;rfl
  rw[e]at this;exact spot_of this
 refine⟨some x,l,m,(List.range l).flatMap f,rfl,⟨?_,hl,fun h0=>?_⟩,hlw,fun h0=>?_⟩
 · rw[ints_len,flat_len f 5 _ (fun i hi=>(hfs i (Nat.lt_of_lt_of_le (List.mem_range.1 hi) hl)).1),List.length_range]
 · obtain⟨b,o,rfl,hb⟩:=hat h0;refine⟨b,o,rfl,hb,fun j v hv=>?_⟩;rw[show ints .i64 ((List.range l).flatMap f)=(List.range l).flatMap (fun i=>ints .i64 (f i)) by unfold ints;rw[List.map_flatMap]]at hv;obtain⟨i,r,z,h1,h2,h3⟩:=unchunk _ 5 _ (fun z hz=>by rw[ints_len];exact(hfs z (Nat.lt_of_lt_of_le (List.mem_range.1 hz) hl)).1) j v hv;(have hi:i<l:=by(rcases Nat.lt_or_ge i l with h|h);(· exact h);rw[List.getElem?_eq_none (by simpa using h)]at h1;cases h1);rw[List.getElem?_range hi]at h1;have hzi:z=i:=(Option.some.inj h1).symm;rw[hzi]at h2;have:=(hfs i (Nat.lt_of_lt_of_le hi hl)).2 r v h2;rw[h3];rw[Addr.add_mid,Addr.add_mid]at this;rw[<-Nat.add_assoc];exact this
 obtain⟨b,o,rfl,hb⟩:=hat h0;exact⟨b,o,rfl,hb⟩
theorem open_byt{y:DataW H×List MemPlace}(h:DataW.trod enc prog W base (fun _=>true) held n 31 [v]=some y)(hw:∀n ∈ y.1.weights prog 31,n<=reachBytes): ∃(A:Option Addr) (len cap:Nat) (l:List Int),v=.slice A len cap/\Rd W .u8 A len cap l/\len<=140737488355328/\LowA A cap W.heap.size:=by
 have c5:prog.cellsOf 5=1:=by kernel_rfl
 have b5:prog.bytesOf 5=1:=by kernel_rfl
 rcases open_ints underlying31 underlying5 c5 h with⟨hcs,_⟩|⟨x,l,c,zs,hcs,_,hl,hm,hz,ey,hcell,_⟩
 · (obtain rfl:v=.slice none 0 0:=by simpa using hcs);exact⟨none,0,0,[],rfl,⟨rfl,Nat.le_refl _,fun h=>absurd h (Nat.lt_irrefl 0)⟩,by omega,fun h=>absurd h (Nat.lt_irrefl 0)⟩
 obtain rfl:v=.slice (some x) l c:=by simpa using hcs
 simp only[if_true]at hz;have hlw:l<=140737488355328:=by have:=hw (((lits .u8 (zs.take l)).length+(lits (H:=H) .u8 (zs.drop l)).length)*prog.bytesOf 5) (by rw[ey];simp only[DataW.weights,underlying31,List.mem_cons];exact .inl (by first|rfl|trivial));rw[b5]at this;simp only[lits,List.length_map,List.length_take,List.length_drop]at this;unfold reachBytes at this;omega
 have hat:0<c->∃b o,x=⟨b,o,none⟩/\b<W.heap.size:=fun h0=>by
  have:=hcell 0 o_;have e:x.add 0=x:=by obtain⟨b,o,s⟩:=x;rfl
  rw[e]at this;exact spot_of this
 refine⟨some x,l,c,zs.take l,rfl,⟨by rw[List.length_take];omega,hl,fun h0=>?_⟩,hlw,fun h0=>?_⟩
 · obtain⟨b,o,rfl,hb⟩:=hat h0;refine⟨b,o,rfl,hb,fun j v hv=>?_⟩;unfold ints at hv;rw[List.getElem?_map,List.getElem?_take]at hv;split at hv;(· rename_i hj;rw[List.getElem?_eq_getElem o_]at hv;simp only[Option.map_some,Option.some.injEq]at hv;subst hv;have:=hcell j o_;rw[List.getD_eq_getElem?_getD,List.getElem?_eq_getElem o_]at this;rw[Addr.add_mid]at this;exact this);simp at hv
 obtain⟨b,o,rfl,hb⟩:=hat h0;exact⟨b,o,rfl,hb⟩
instance acInh:Inhabited AcP:=⟨zac⟩
structure AcArg (W:World) (p:AcP):Prop where
 ops:OpsR W p.A p.nA p.cA p.lA
 nA:p.nA<=140737488355328
 opsLo:LowA p.A p.cA W.heap.size
 byt:Rd W .u8 p.Y p.nY p.cY p.lY
 nY:p.nY<=140737488355328
 bytLo:LowA p.Y p.cY W.heap.size
theorem slice_at{o:Option (DataW H×List MemPlace)}(hc:prog.cellsOf t=1)(hi:i<cs.length)(h:DataW.trod enc prog W base sp held m t ((cs.drop i).take (prog.cellsOf t))=o):DataW.trod enc prog W base sp held m t [cs[i]]=o:=by
 rw[hc,List.drop_eq_getElem_cons hi,List.take_succ_cons,List.take_zero]at h;exact h
theorem open_act{x:DataW H×List MemPlace}(h:DataW.trod enc prog W base (fun _=>true) held n 33 cs=some x)(hw:∀n ∈ x.1.weights prog 33,n<=reachBytes):∃p:AcP,AcArg W p/\cs=acC p:=by
 obtain⟨xs,m,_,ex,hlen,hl,hf⟩:=DataW.trod_struct underlying33 h;have c33:prog.cellsOf 33=7:=by kernel_rfl
 have c30:prog.cellsOf 30=1:=by kernel_rfl
 have c31:prog.cellsOf 31=1:=by kernel_rfl
 rw[c33]at hlen;have hl7:xs.length=7:=hl;obtain⟨z0,e0⟩:=int_at ((hf 0 _ rfl).trans (List.getElem?_eq_getElem o_));obtain⟨z1,e1⟩:=int_at ((hf 1 _ rfl).trans (List.getElem?_eq_getElem o_));obtain⟨z2,e2⟩:=int_at ((hf 2 _ rfl).trans (List.getElem?_eq_getElem o_));obtain⟨z3,e3⟩:=int_at ((hf 3 _ rfl).trans (List.getElem?_eq_getElem o_));obtain⟨z5,e5⟩:=int_at ((hf 5 _ rfl).trans (List.getElem?_eq_getElem o_));have g4:=slice_at (i:=4) c30 o_ ((hf 4 _ rfl).trans (List.getElem?_eq_getElem o_));have g6:=slice_at (i:=6) c31 o_ ((hf 6 _ rfl).trans (List.getElem?_eq_getElem o_));have hsub:∀(j:Nat) (t:TypeId) (hj:j<xs.length),[(3:TypeId),3,3,3,30,3,31][j]? = some t->∀n ∈ (xs[j]).1.weights prog t,n<=reachBytes:=fun j t hj ht n hn=>by refine hw n ?_;rw[ex];simp only[DataW.weights,underlying33];exact DataW.weights_mem_each (j:=j) (t:=t) (d:=(xs[j]).1) ht (by rw[List.getElem?_map,List.getElem?_eq_getElem hj];rfl) n hn
 obtain⟨A,nA,cA,lA,ev4,a1,a2,a3⟩:=open_ops g4 (hsub 4 30 o_ rfl);obtain⟨Y,nY,cY,lY,ev6,y1,y2,y3⟩:=open_byt g6 (hsub 6 31 o_ rfl);refine⟨⟨z0,z1,z2,z3,A,nA,cA,lA,z5,Y,nY,cY,lY⟩,⟨a1,a2,a3,y1,y2,y3⟩,List.ext_getElem? fun i=>?_⟩
 match i with
 | 0=>exact e0
 | 1=>exact e1
 | 2=>exact e2
 | 3=>exact e3
 | 4=>rw[List.getElem?_eq_getElem o_,ev4];rfl
 | 5=>exact e5
 | 6=>rw[List.getElem?_eq_getElem o_,ev6];rfl
 | j+7=>rw[List.getElem?_eq_none o_,List.getElem?_eq_none (by simp[acC])]
theorem acts_arg{a:Option Addr}{len cap:Nat}{d:DataW H}{ps:List MemPlace}(h:DataW.Trod enc prog W base (fun _=>true) held 22 (.slice a len cap) d ps)(hw:∀n ∈ d.weights prog 22,n<=reachBytes):∃x:Nat->AcP,ActsR W a len cap x:=by
 obtain⟨fuel,hf⟩:=h;rcases open_slice underlying22 hf with⟨hcs,_⟩|⟨x,l,c,m,n,D,Pl,hcs,_,hl,hm,hmm,ed,hr⟩
 · simp[Value.cells]at hcs;obtain⟨rfl,rfl,rfl⟩:=hcs;exact⟨fun _=>zac,⟨Nat.le_refl _,fun h=>absurd h (Nat.lt_irrefl 0),fun i hi=>absurd hi (Nat.not_lt_zero i),fun i hi=>absurd hi (Nat.not_lt_zero i),fun i hi=>absurd hi (Nat.not_lt_zero i),fun i hi=>absurd hi (Nat.not_lt_zero i),fun i hi=>absurd hi (Nat.not_lt_zero i),fun i hi=>absurd hi (Nat.not_lt_zero i)⟩⟩
 · simp[Value.cells]at hcs;obtain⟨rfl,rfl,rfl⟩:=hcs;(have c33:prog.cellsOf 33=7:=by kernel_rfl);rw[c33]at hr;simp only[if_true]at hmm;have hd:d=.slice ((List.range len).map D) ((List.range (m-len)).map fun j=>D (len+j)):=congrArg Prod.fst ed
   have each:∀i,i<len->∃p:AcP,AcArg W p/\∀j v,(acC p)[j]? = some v->W.cell? ((x.add (i*7)).add j)=some v:=by
    intro i hi
    obtain⟨cs',h1,h2⟩:=hr i o_
    obtain⟨p,hp,rfl⟩:=open_act h2 (fun n hn=>hw n (by
     rw[hd]
     simp only[DataW.weights,underlying22,List.mem_cons,List.mem_append]
     exact .inr (.inl (weights_all (List.mem_map.2 ⟨i,List.mem_range.2 hi,rfl⟩) n hn))))
    obtain⟨_,hlen,hcell⟩:=World.cells?_some h1
    refine⟨p,hp,fun j v hv=>?_⟩
    have hj:j<7:=by rw[<-hlen];exact(List.getElem?_eq_some_iff.1 hv).1
    rw[hcell j hj,hv]
   obtain⟨f,hfs⟩:=choose_lt each;refine⟨f,⟨hl,fun h0=>?_,fun i hi=>(hfs i hi).1.ops,fun i hi=>(hfs i hi).1.nA,fun i hi=>(hfs i hi).1.opsLo,fun i hi=>(hfs i hi).1.byt,fun i hi=>(hfs i hi).1.nY,fun i hi=>(hfs i hi).1.bytLo⟩⟩;have h00:=(hfs 0 h0).2 0 (.int .i64 (f 0).kd) rfl;rw[Nat.zero_mul]at h00;(have e:(x.add 0).add 0=x:=by obtain⟨b,o,s⟩:=x;rfl);rw[e]at h00;obtain⟨b,o,rfl,hb⟩:=spot_of h00;refine⟨b,o,rfl,hb,fun i hi j v hv=>?_⟩;have:=(hfs i hi).2 j v hv;rw[Addr.add_mid,Addr.add_mid]at this;exact this
end
end Go.Proofs.YtppjnahcnofokaaGreat.T
