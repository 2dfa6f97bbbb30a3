import Derived.Test.YtppjnahcnofokaaGreatM0
import Derived.Test.YtppjnahcnofokaaGreatM8
set_option maxRecDepth 100000
set_option maxHeartbeats 32000000
set_option linter.unusedSimpArgs false
set_option linter.unusedVariables false
namespace Go.Proofs.YtppjnahcnofokaaGreat.T
open Go.RowKit Go.Proofs.YtppjnahcnofokaaGreatW.PrintLast
open Go.Proofs.Tryz
variable{k:IntKind}{a:Act}{b i n B base m fuel D B':Nat}{l ch:List Int}{w w' w1 w2:World}{t:TypeId}{P:Program}{cs xs vs l3:List Value}{A A':Option Addr}{o oi:Oper}{e s f st fl:Int}{ops:Array Oper}{rest l0:List Oper}{v:Value}{r:Option Nat}{rs rs2:List (Option Addr×Nat×Nat×List Int)}{E:Prop}{ad ai go:List Bool}{N:Act->Prop}{place:Nat->Option (Nat×Nat)}{bad:Bool}{es es':List (Int×List Int)}{T:List TypeId}
theorem step_append_full{K:Act->World->Prop}{Q:Exit->Act->World->Prop}(hgd:o.guard=none)(s x:Operand)(ho:o.op=.call {callee:=.builtin .append,args:=#[s,x],argTypes:=#[31,31] })(A B:Addr)(n m c:Nat)(l1 l2:List Int)(hs:a.eval s=.slice (some A) n n)(hx:a.eval x=.slice (some B) m c)(hr:Rd w .u8 (some A) n n l1)(hr2:Rd w .u8 (some B) m c l2)(hn:0<n)(hm:0<m)(hb:n+m<=100000)(h:∀A' c' w',w'.ownsRow w.heap.size 5 1 (.slice A' (n+m) c') (n+m) (ints .u8 (l1++l2))->Bl w w'->K (a.put o.dst (.slice A' (n+m) c')) w'): if Region.wanted o (yielded ops a.tmps)=true then Oper.wp prog o a w K Q else E:=by
 have hw:Region.wanted o (yielded ops a.tmps)=true:=by simp[Region.wanted,hgd]
 rw[if_pos hw];obtain⟨ht,i,z,hi,hz,hsz,hby,hzs,hp⟩:=et31;have rd:∀{D:Addr} {k c:Nat} {l:List Int},Rd w .u8 (some D) k c l->0<k->∀j u,(ints .u8 l)[j]? = some u->w.cell? (D.add j)=some u:=by
  intro D k c l h h0 j u hu;obtain⟨b,o',e,_,hc⟩:=h.at_ (by have:=h.cap;omega);injection e with e
  subst e;rw[Addr.add_mid];exact hc j u hu
 obtain⟨v',w',hrun,h2,h3⟩:=run_append_arg_grows (P:=prog) w 31 o.type 5 i z 1 1 ht hi hz hsz hby hzs hp A n n (ints .u8 l1) (by rw[ints_len,hr.len,Nat.mul_one]) (rd hr hn) B m c (ints .u8 l2) (by rw[ints_len,hr2.len,Nat.mul_one]) (rd hr2 hm) o_ (by unfold maxLen;omega) o_;unfold Oper.wp execOp;simp only[ho,resolve,invoke,builtin,Sem.run_bind,Sem.run_pure,Result.andThen_ok,List.map_toArray,List.map_cons,List.map_nil,hs,hx,hrun];have hv:∃A' c',v'=.slice A' (n+m) c':=by
  rcases h2.2 with⟨rfl,h0⟩|⟨g,cap,_,rfl,_⟩
  · exact⟨none,0,by rw[h0]⟩
  exact⟨_,_,rfl⟩
 obtain⟨A',c',rfl⟩:=hv;exact h A' c' w' (by unfold ints at h2 ⊢;rw[List.map_append];exact h2) ((Below.refl _ w).grown h3 (Nat.le_refl _) (fun k hk=>by cases hk))
theorem zc137:Tryz.zeroCells137=(wlC zwl).toArray:=by kernel_rfl
theorem built137(parts:List (Nat×Value)):prog.built 137 parts=Instr.fill (#[(0,1),(1,1),(2,73),(75,1),(76,32)][·]?) (wlC zwl).toArray parts:=by kernel_rfl
theorem run_build137(x:WlP)(h:VwOk x.t x.ad x.ch)(h2:x.tag.length=32)(hX:∃A n c,x.X=.slice A n c)(w:World):(Instr.build 137 #[(0,.int .i64 x.lf),(1,.int .i64 x.fr),(2,.agg (vw x.e x.t x.ad x.k x.ch).toArray),(3,x.X),(4,.agg (ints .u8 x.tag).toArray)]).run prog w=.ok (.agg (wlC x).toArray) w:=by
 obtain⟨A,n,c,hX⟩:=hX;refine run_build w 137 _ _ ?_;rw[built137,hX];have e1:wlC zwl=[] ++ [.int .i64 0]++([.int .i64 0]++vw 0 z31 zb 0 z32++([.slice none 0 0]++ints .u8 zl)):=rfl;rw[e1,fill_splice (l1:=[]) (l0:=[.int .i64 0]) (vs:=[.int .i64 x.lf]) (off:=0) (size:=1) rfl rfl rfl rfl rfl];have e2:([]:List Value) ++ [.int .i64 x.lf]++([.int .i64 0]++vw 0 z31 zb 0 z32++([.slice none 0 0]++ints .u8 zl))=[.int .i64 x.lf] ++ [.int .i64 0]++(vw 0 z31 zb 0 z32++([.slice none 0 0]++ints .u8 zl)):=by simp
 rw[e2,fill_splice (l1:=[.int .i64 x.lf]) (l0:=[.int .i64 0]) (vs:=[.int .i64 x.fr]) (off:=1) (size:=1) rfl rfl rfl rfl rfl];have e3:[Value.int .i64 x.lf] ++ [.int .i64 x.fr]++(vw 0 z31 zb 0 z32++([.slice none 0 0]++ints .u8 zl))=[.int .i64 x.lf,.int .i64 x.fr]++vw 0 z31 zb 0 z32++([.slice none 0 0]++ints .u8 zl):=by simp
 rw[e3,fill_splice (l1:=[.int .i64 x.lf,.int .i64 x.fr]) (l0:=vw 0 z31 zb 0 z32) (vs:=(vw x.e x.t x.ad x.k x.ch)) (off:=2) (size:=73) rfl rfl rfl (vw_len h) (by rw[vw_len h,vw_len zvOk])];have e4:[Value.int .i64 x.lf,.int .i64 x.fr]++(vw x.e x.t x.ad x.k x.ch)++([.slice none 0 0]++ints .u8 zl)=([Value.int .i64 x.lf,.int .i64 x.fr]++(vw x.e x.t x.ad x.k x.ch)) ++ [.slice none 0 0]++ints .u8 zl:=by simp
 rw[e4,fill_splice (l1:=[Value.int .i64 x.lf,.int .i64 x.fr]++(vw x.e x.t x.ad x.k x.ch)) (l0:=[Value.slice none 0 0]) (vs:=[Value.slice A n c]) (off:=75) (size:=1) rfl rfl (by simp[vw_len h]) rfl rfl];have e5:([Value.int .i64 x.lf,.int .i64 x.fr]++(vw x.e x.t x.ad x.k x.ch)) ++ [.slice A n c]++ints .u8 zl=([Value.int .i64 x.lf,.int .i64 x.fr]++(vw x.e x.t x.ad x.k x.ch) ++ [.slice A n c])++ints .u8 zl ++ []:=by simp
 rw[e5,fill_splice (l1:=[Value.int .i64 x.lf,.int .i64 x.fr]++(vw x.e x.t x.ad x.k x.ch) ++ [Value.slice A n c]) (l0:=ints .u8 zl) (vs:=ints .u8 x.tag) (off:=76) (size:=32) rfl rfl (by simp[vw_len h]) (by rw[ints_len,h2]) (by rw[ints_len,ints_len,h2];rfl)];simp[Instr.fill,wlC,hX]
theorem step_build{K:Act->World->Prop}{Q:Exit->Act->World->Prop}(hgd:o.guard=none)(t:TypeId)(ps:Array (Nat×Operand))(ho:o.op=.build t ps)(parts:Array (Nat×Value))(hp:(ps.map fun(i,x)=>(i,a.eval x))=parts)(v:Value)(hrun:(Instr.build t parts).run prog w=.ok v w)(h:K (a.put o.dst v) w):if Region.wanted o (yielded ops a.tmps)=true then Oper.wp prog o a w K Q else E:=by
 have hw:Region.wanted o (yielded ops a.tmps)=true:=by simp[Region.wanted,hgd]
 rw[if_pos hw];unfold Oper.wp execOp;simp only[ho,hp,Sem.run_bind,hrun,Result.andThen_ok];exact h
def WcR(w:World)(r:Ending)(w':World):Prop:=∃z e,r=.returned (.tuple #[.agg (wlC z).toArray,.int .i64 e])/\WlOk w' z/\∀b o n c,z.X=.slice (some ⟨b,o,none⟩) n c->w.heap.size<=b
theorem greet_any(b:Nat)(x:PyP)(n:Nat)(p q sx:List Int)(w:World)(hc:Cel w b 82 (pyC x))(hok:PyOk x)(hn8:n<8)(hp:p.length=32)(hq:q.length=32)(hs:sx.length=32):Calls prog 108 #[.pointer (some ⟨b,0,none⟩),.int .i64 n,.agg (ints .u8 p).toArray,.agg (ints .u8 q).toArray,.agg (ints .u8 sx).toArray] w fun r w'=>WcR w r w'/\Bl w w':=by
 obtain⟨w1,hW⟩:=ex_ (((((w.alloc (.cells (ints .u8 p).toArray 43)).alloc (.cells (ints .u8 q).toArray 43)).alloc (.cells (ints .u8 sx).toArray 43)).alloc (.cells Tryz.zeroCells137 137)));have hb1:Bl w w1:=by rw[hW];exact bal (bal (bal b0_))
 have HB1:=hd_ hb1;have HP1:Hid (Blk w1 w.heap.size .u8 43 p):=by rw[hW];exact(((blk_new w .u8 43 p _ rfl).below b0_ s_).below b0_ s1_).below b0_ s1_
 have HQ1:Hid (Blk w1 (w.heap.size+1) .u8 43 q):=by rw[hW];exact((blk_new _ .u8 43 q _ s_).below b0_ s_).below b0_ s_
 have HS1:Hid (Blk w1 (w.heap.size+2) .u8 43 sx):=by rw[hW];exact(blk_new _ .u8 43 sx _ s_).below b0_ s_
 have HR1:Hid (Cel w1 (w.heap.size+3) 137 (wlC zwl)):=by rw[hW,zc137];exact Cel.new _ s_ rfl
 have HC0:=hd_ hc;have HOk:=hd_ hok;have HPp:=hd_ hp;have HQq:=hd_ hq;have HSs:=hd_ hs;have hbw:b<w.heap.size:=hc.lt;have hni:(n:Int)<8:=by omega
 obtain⟨mm,hmm⟩:=Int.eq_ofNat_of_zero_le hok.lf.1;have HMM:=hd_ hmm;obtain⟨L1,hL1⟩:∃L,x.t.getD (n*2+1) 0=L:=⟨_,rfl⟩;have HL1:=hd_ hL1;have hVI:Hid ((prog.info? 45).map (·.size)=some (vw x.e x.t x.ad x.k x.ch).length):=vw_hi hok.vw;have HW:=hd_ hW;clear hW hb1 hc hok hp hq hs hmm hL1;go_enter func108,ntmps108
 go_wp2_with fail;refine pr_ 0 13 (bt 13 0) fun w1d hw1d=>?_;refine mG ?_;have HP:Hid (Blk w1d w.heap.size .u8 43 p):=by rw[<-hw1d,<- HW.out];exact HP1.out.drew
 have HQ:Hid (Blk w1d (w.heap.size+1) .u8 43 q):=by rw[<-hw1d,<- HW.out];exact HQ1.out.drew
 have HS:Hid (Blk w1d (w.heap.size+2) .u8 43 sx):=by rw[<-hw1d,<- HW.out];exact HS1.out.drew
 have HR:Hid (Cel w1d (w.heap.size+3) 137 (wlC zwl)):=by rw[<-hw1d,<- HW.out];exact HR1.out.drew
 have HB:Hid (Bl w w1d):=by rw[<-hw1d,<- HW.out];exact HB1.out.drew
 clear hw1d HP1 HQ1 HS1 HR1 HB1 HW;refine wpAny_of_last (S:=fun w'=>w'.cell? ⟨b,73,none⟩=some (.int .i64 mm)/\Hid (Cel w' b 82 (pyC x))) (ds:=[12]) _ _ _ _ ?_;have hH:(fun w'=>w'.cell? ⟨b,73,none⟩=some (.int .i64 mm)/\Hid (Cel w' b 82 (pyC x))) w1d:=⟨((HC0.out.below HB.out hbw).cell 73).trans ((py_lf HOk.out).trans (by rw[HMM.out])),HC0.out.below HB.out hbw⟩;refine ts_ 0 6 7 (bt 13 63) hH ?_;refine mD ?_;repeat (first|(refine tk_ 43 (.tmp 24) b (110+i*32) (ints .u8 ((x.nd.drop (i*32)).take 32)) (fun _ h=>py_nr HOk.out h.2.out i HI.out) underlying43 rfl (hi43 (py_nl HOk.out i HI.out)).out ?_)|(refine uA ?_)|(refine mB2 ?_))
 refine takes_nil ?_;refine ts_ 7 2 5 (bt 13 447) hH ?_;refine mD ?_;repeat (first|(refine tk_ 43 (.tmp 24) b (110+i*32) (ints .u8 ((x.nd.drop (i*32)).take 32)) (fun _ h=>py_nr HOk.out h.2.out i HI.out) underlying43 rfl (hi43 (py_nl HOk.out i HI.out)).out ?_)|(refine uA ?_)|(refine mB2 ?_))
 refine takes_nil ?_;clear hH;refine join_ (σ:=Nat×Nat) 1 (bt 13 4095) (fun s=>match s with|(i,b11)=>[(21,.int .i64 i),(24,.pointer (some ⟨b,110+i*32,none⟩)),(25,.agg (ints .u8 ((x.nd.drop (i*32)).take 32)).toArray),(12,.pointer (some ⟨b11,0,none⟩))]) (fun s w'=>match s with|(i,b11)=>Hid (Blk w' w.heap.size .u8 43 p)/\Hid (Blk w' (w.heap.size+1) .u8 43 q)/\Hid (Blk w' (w.heap.size+2) .u8 43 sx)/\Hid (Cel w' (w.heap.size+3) 137 (wlC zwl))/\Hid (Bl w w')/\Hid (i<3)/\Hid (Row w' b11 .u8 43 32)/\Hid (w.heap.size+3<b11)) ?_ (fun st0=>?_)
 · rintro⟨i,b11⟩ wc ⟨HP,HQ,HS,HR,HB,HI,H12,H12b⟩;refine mE ?_;have hH:=trivial;refine tl_ 12 ?_;refine mF ?_;have hb12:=H12b.out;have HLn:=hd_ (py_nl HOk.out i HI.out);obtain⟨l12,hl12⟩:=ex_ (((x.nd.drop (i*32)).take 32));rw[<-hl12]at HLn ⊢;clear hH hl12
   go_wp2_with (refine store_blk rfl 43 (.tmp 12) (.tmp 25) rr b11 .u8 l12 rr rr H12.out HLn.out (by show _=_;rw[HLn.out];exact info43) ?_
                intro w3 hS hG
                have HT3:=hd_ hS
                have HP3:=hd_ (HP.out.grown hG s1_)
                have HQ3:=hd_ (HQ.out.grown hG s1_)
                have HS3:=hd_ (HS.out.grown hG s1_)
                have HR3:=hd_ (HR.out.grown hG s1_)
                have HB3:=hd_ (HB.out.grown hG HB.out.size (fun k hk=>by cases hk;omega))
                clear hS hG HP HQ HS HR HB H12)
   refine pr_ 0 23 (bt 23 0) fun w1d hw1d=>?_;refine mG ?_;(have mT:Hid (Blk w1d b11 .u8 43 l12):=by rw[<-hw1d];exact HT3.out.drew);(have mP:Hid (Blk w1d w.heap.size .u8 43 p):=by rw[<-hw1d];exact HP3.out.drew);(have mQ:Hid (Blk w1d (w.heap.size+1) .u8 43 q):=by rw[<-hw1d];exact HQ3.out.drew);(have mS:Hid (Blk w1d (w.heap.size+2) .u8 43 sx):=by rw[<-hw1d];exact HS3.out.drew);(have mR:Hid (Cel w1d (w.heap.size+3) 137 (wlC zwl)):=by rw[<-hw1d];exact HR3.out.drew);(have mB:Hid (Bl w w1d):=by rw[<-hw1d];exact HB3.out.drew);have hH:(fun w'=>w'.cell? ⟨b,1+n*2+1,none⟩=some (.int .i64 L1)/\Hid (Blk w' (w.heap.size+2) .u8 43 sx)) w1d:=⟨(by have:=(py_rg0 HOk.out (HC0.out.below mB.out hbw)) (1+(n*2+1)) _ ((vw_tree HOk.out.vw (n*2+1) o_).trans (by rw[HL1.out]));rwa [Nat.zero_add,<- Nat.add_assoc]at this),mS⟩;clear hw1d HT3 HP3 HQ3 HS3 HR3 HB3;refine wpAny_of_last (S:=fun w'=>w'.cell? ⟨b,1+n*2+1,none⟩=some (.int .i64 L1)/\Hid (Blk w' (w.heap.size+2) .u8 43 sx)) (ds:=[21,22]) _ _ _ _ ?_;refine ts_ 0 11 12 (bt 23 2047) hH ?_;refine mD ?_;(repeat (first|(refine tk_ 43 (.tmp 9) (w.heap.size+2) 0 (ints .u8 sx) (fun _ h=>h.2.out.range) underlying43 rfl (hi43 HSs.out).out ?_)|(refine uA ?_)|(refine mB2 ?_)));refine takes_nil ?_;refine ts_ 14 2 10 (bt 23 51199) hH ?_;refine mD ?_;(repeat (first|(refine tk_ 43 (.tmp 9) (w.heap.size+2) 0 (ints .u8 sx) (fun _ h=>h.2.out.range) underlying43 rfl (hi43 HSs.out).out ?_)|(refine uA ?_)|(refine mB2 ?_)));refine takes_nil ?_;refine one_ (i:=11) (N:=some 38) (bt 23 53247) rfl rfl kk dd (fun K hK=>?_);refine goes_ func38 kk rfl #[.int .i64 n] rr rfl rfl mL ?_;refine(num_any n _).mono ?_;rintro _ wy ⟨⟨A5,c5,l5,rfl,ho5,hl5⟩,hb⟩;refine⟨_,rfl,?_⟩;have H5:Hid (Rd wy .u8 A5 8 c5 l5):=rd_own ho5 hl5;have zT:=hd_ (mT.out.below hb mT.out.lt);have zP:=hd_ (mP.out.below hb mP.out.lt);have zQ:=hd_ (mQ.out.below hb mQ.out.lt);have zS:=hd_ (mS.out.below hb mS.out.lt);have zR:=hd_ (mR.out.below hb mR.out.lt);have zB:=tb_ mB hb;clear mT mP mQ mS mR mB;obtain⟨mT,mP,mQ,mS,mR,mB⟩:=And.intro zT (And.intro zP (And.intro zQ (And.intro zS (And.intro zR zB))));clear zT zP zQ zS zR zB;refine hK.out _ _ ⟨(by have:=(py_rg0 HOk.out (HC0.out.below mB.out hbw)) (1+(n*2+1)) _ ((vw_tree HOk.out.vw (n*2+1) o_).trans (by rw[HL1.out]));rwa [Nat.zero_add,<- Nat.add_assoc]at this),mS⟩ (fun hH=>?_);clear hK K hb ho5 hl5;refine mN ?_;refine one_ (i:=12) (N:=some 39) (bt 23 57343) rfl rfl kk dd (fun K hK=>?_);obtain⟨wn,hwn⟩:=ex_ (wy.alloc (.cells #[.slice A5 8 c5] 31));refine value_ rr rfl (v:=.slice (some ⟨wy.heap.size,0,none⟩) 1 1) (w1:=wn) (by rw[hwn];go_simp) ?_;have hb:=nb_ hwn;(have H6:Hid (RdR wn (some ⟨wy.heap.size,0,none⟩) 1 1 60000 [(A5,8,c5,l5)]):=by rw[hwn];exact rdr_new wy [(A5,8,c5,l5)] _ 1 rfl rfl (fun r hr=>by simp at hr;subst hr;exact⟨H5.out,by show 8<=_;omega⟩));have zT:=hd_ (mT.out.below hb mT.out.lt);have zP:=hd_ (mP.out.below hb mP.out.lt);have zQ:=hd_ (mQ.out.below hb mQ.out.lt);have zS:=hd_ (mS.out.below hb mS.out.lt);have zR:=hd_ (mR.out.below hb mR.out.lt);have zB:=tb_ mB hb;clear mT mP mQ mS mR mB;obtain⟨mT,mP,mQ,mS,mR,mB⟩:=And.intro zT (And.intro zP (And.intro zQ (And.intro zS (And.intro zR zB))));clear zT zP zQ zS zR zB;refine hK.out _ _ ⟨(by have:=(py_rg0 HOk.out (HC0.out.below mB.out hbw)) (1+(n*2+1)) _ ((vw_tree HOk.out.vw (n*2+1) o_).trans (by rw[HL1.out]));rwa [Nat.zero_add,<- Nat.add_assoc]at this),mS⟩ (fun hH=>?_);clear hK K hb hwn;refine mN ?_;refine one_ (i:=13) (N:=some 40) (bt 23 65535) rfl rfl kk dd (fun K hK=>?_);refine goes_ func37 kk rfl #[.agg (ints .u8 sx).toArray,.string ⟨#[104,101,108,108,111]⟩,.slice (some ⟨wy.heap.size,0,none⟩) 1 1] rr rfl rfl mL ?_;refine(derive_any sx _ _ 1 1 _ _ HSs.out dd H6.out o_).mono ?_;rintro _ wz ⟨⟨ld,hld,rfl⟩,hb⟩;refine⟨_,rfl,?_⟩;have HLd:=hd_ hld;have zT:=hd_ (mT.out.below hb mT.out.lt);have zP:=hd_ (mP.out.below hb mP.out.lt);have zQ:=hd_ (mQ.out.below hb mQ.out.lt);have zS:=hd_ (mS.out.below hb mS.out.lt);have zR:=hd_ (mR.out.below hb mR.out.lt);have zB:=tb_ mB hb;clear mT mP mQ mS mR mB;obtain⟨mT,mP,mQ,mS,mR,mB⟩:=And.intro zT (And.intro zP (And.intro zQ (And.intro zS (And.intro zR zB))));clear zT zP zQ zS zR zB;refine hK.out _ _ ⟨(by have:=(py_rg0 HOk.out (HC0.out.below mB.out hbw)) (1+(n*2+1)) _ ((vw_tree HOk.out.vw (n*2+1) o_).trans (by rw[HL1.out]));rwa [Nat.zero_add,<- Nat.add_assoc]at this),mS⟩ (fun hH=>?_);clear hK K hb hld H5 H6;refine mN ?_;refine one_ (i:=16) (N:=some 43) (bt 23 131071) rfl rfl kk dd (fun K hK=>?_);refine step_append_full rfl (.tmp 41) (.tmp 42) rfl ⟨w.heap.size,0,none⟩ ⟨b11,0,none⟩ 32 32 32 p l12 rr rr (rd_blk mP.out HPp.out) (rd_blk mT.out HLn.out) dd dd dd ?_;intro A6 c6 wu ho6 hb;have hwu:w.heap.size+3<wu.heap.size:=Nat.lt_of_lt_of_le mR.out.lt hb.size;have H6:Hid (Rd wu .u8 A6 64 c6 (p++l12)):=rd_own ho6 (by simp[HPp.out,HLn.out]);have zT:=hd_ (mT.out.below hb mT.out.lt);have zP:=hd_ (mP.out.below hb mP.out.lt);have zQ:=hd_ (mQ.out.below hb mQ.out.lt);have zS:=hd_ (mS.out.below hb mS.out.lt);have zR:=hd_ (mR.out.below hb mR.out.lt);have zB:=tb_ mB hb;clear mT mP mQ mS mR mB;obtain⟨mT,mP,mQ,mS,mR,mB⟩:=And.intro zT (And.intro zP (And.intro zQ (And.intro zS (And.intro zR zB))));clear zT zP zQ zS zR zB;refine hK.out _ _ ⟨(by have:=(py_rg0 HOk.out (HC0.out.below mB.out hbw)) (1+(n*2+1)) _ ((vw_tree HOk.out.vw (n*2+1) o_).trans (by rw[HL1.out]));rwa [Nat.zero_add,<- Nat.add_assoc]at this),mS⟩ (fun hH=>?_);clear hK K hb ho6;refine norm_ (a':=?_) ?_ ?_;rotate_left;(· show Act.put _ (some 43) _=_;simp only[Act.put,List.setIfInBounds_toArray,List.set_cons_zero,List.set_cons_succ];rfl);refine one_ (i:=17) (N:=some 44) (bt 23 262143) rfl rfl kk dd (fun K hK=>?_);refine goes_ func161 kk rfl #[.int .i64 L1,.agg (ints .u8 ld).toArray,.slice A6 (32+32) c6] rr rfl rfl mL ?_;refine(seal_any L1 ld A6 64 c6 _ _ HLd.out H6.out o_).mono ?_;rintro _ wv ⟨⟨A9,m9,c9,e9,rfl,ho9,hm9⟩,hb⟩;refine⟨_,rfl,?_⟩;have HO9:=hd_ ho9;have zT:=hd_ (mT.out.below hb mT.out.lt);have zP:=hd_ (mP.out.below hb mP.out.lt);have zQ:=hd_ (mQ.out.below hb mQ.out.lt);have zS:=hd_ (mS.out.below hb mS.out.lt);have zR:=hd_ (mR.out.below hb mR.out.lt);have zB:=tb_ mB hb;clear mT mP mQ mS mR mB;obtain⟨mT,mP,mQ,mS,mR,mB⟩:=And.intro zT (And.intro zP (And.intro zQ (And.intro zS (And.intro zR zB))));clear zT zP zQ zS zR zB;refine hK.out _ _ ⟨(by have:=(py_rg0 HOk.out (HC0.out.below mB.out hbw)) (1+(n*2+1)) _ ((vw_tree HOk.out.vw (n*2+1) o_).trans (by rw[HL1.out]));rwa [Nat.zero_add,<- Nat.add_assoc]at this),mS⟩ (fun hH=>?_);clear hK K hb ho9;refine mN ?_;refine ts_ 18 2 3 (bt 23 1048575) hH ?_;refine mD ?_;(repeat (first|(refine tk_ 43 (.tmp 9) (w.heap.size+2) 0 (ints .u8 sx) (fun _ h=>h.2.out.range) underlying43 rfl (hi43 HSs.out).out ?_)|(refine uA ?_)|(refine mB2 ?_)));refine takes_nil ?_;refine ps_ 20 1 2 (bt 23 2097151) ?_;refine mT1 ?_;refine tl_ 21 ?_;refine mF ?_;clear hH;obtain⟨l9,hl9⟩:=HO9.out.rd;have HR9:=hd_ hl9;clear hl9;go_wp2_with fail;refine pr_ 0 15 (bt 15 0) fun w1d hw1d=>?_;refine mG ?_;(have hQ:Hid (Blk w1d (w.heap.size+1) .u8 43 q):=by rw[<-hw1d];exact mQ.out.drew);(have hR:Hid (Cel w1d (w.heap.size+3) 137 (wlC zwl)):=by rw[<-hw1d];exact mR.out.drew);(have hB:Hid (Bl w w1d):=by rw[<-hw1d];exact mB.out.drew);(have hO:Hid (WlOk w1d (⟨n,mm,x.e,x.k,x.t,x.ch,x.ad,.slice A9 m9 c9,q⟩:WlP)):=by rw[<-hw1d];exact⟨HOk.out.vw,HQq.out,A9,m9,c9,l9,rfl,HR9.out.below (Below.refl _ _).drew,by omega⟩);(have hO9:Hid (OwnB w1d wu.heap.size (.slice A9 m9 c9) m9):=by rw[<-hw1d];exact HO9.out.drew);have hH:(fun w'=>w'.cell? ⟨b,73,none⟩=some (.int .i64 mm)/\Hid (Cel w' b 82 (pyC x))/\Hid (Blk w' (w.heap.size+1) .u8 43 q)) w1d:=⟨((HC0.out.below hB.out hbw).cell 73).trans ((py_lf HOk.out).trans (by rw[HMM.out])),HC0.out.below hB.out hbw,hQ⟩;clear hw1d mT mP mQ mS mR mB;refine wpAny_of_last (S:=fun w'=>w'.cell? ⟨b,73,none⟩=some (.int .i64 mm)/\Hid (Cel w' b 82 (pyC x))/\Hid (Blk w' (w.heap.size+1) .u8 43 q)) (ds:=[13,14]) _ _ _ _ ?_;refine ts_ 0 11 4 (bt 15 2047) hH ?_;refine mD ?_;(repeat (first|(refine tk_ 45 (.tmp 54) b 0 ((vw x.e x.t x.ad x.k x.ch)) (fun _ h=>py_rg0 HOk.out h.2.1.out) underlying45 rfl hVI.out ?_)|(refine tk_ 43 (.tmp 8) (w.heap.size+1) 0 (ints .u8 q) (fun _ h=>h.2.2.out.range) underlying43 rfl (hi43 HQq.out).out ?_)|(refine uA ?_)|(refine mB3 ?_)));refine takes_nil ?_;refine ps_ 12 1 3 (bt 15 6143) ?_;refine mT1 ?_;refine one_ (i:=11) (N:=some 58) (bt 15 8191) rfl rfl kk dd (fun K hK=>?_);refine step_build rfl 137 _ rfl #[(0,.int .i64 n),(1,.int .i64 mm),(2,.agg (vw x.e x.t x.ad x.k x.ch).toArray),(3,.slice A9 m9 c9),(4,.agg (ints .u8 q).toArray)] (by simp only[List.map_toArray,List.map_cons,List.map_nil];rfl) _ (run_build137 (⟨n,mm,x.e,x.k,x.t,x.ch,x.ad,.slice A9 m9 c9,q⟩:WlP) HOk.out.vw HQq.out ⟨_,_,_,rfl⟩ w1d) ?_;refine hK.out _ _ hH (fun hH=>?_);clear hK K;refine norm_ (a':=?_) ?_ ?_;rotate_left;(· show Act.put _ (some 58) _=_;simp only[Act.put,List.setIfInBounds_toArray,List.set_cons_zero,List.set_cons_succ];rfl);refine tl_ 13 ?_;refine mF ?_;clear hH;go_wp2_with (refine store_cel rfl 137 (.tmp 10) (.tmp 58) rr (w.heap.size+3) 0 137 [] (wlC zwl) [] (wlC (⟨n,mm,x.e,x.k,x.t,x.ch,x.ad,.slice A9 m9 c9,q⟩:WlP)) rr rr (by simpa using hR.out) rfl (by rw[wl_len zvOk rfl,wl_len HOk.out.vw HQq.out]) (wl_hi HOk.out.vw HQq.out) (all_oneCell_toArray (wl_one hO.out)) ?_;intro wl hCl hgl);have hload:=Cel.wlload (show Cel wl (w.heap.size+3) 137 (wlC (⟨n,mm,x.e,x.k,x.t,x.ch,x.ad,.slice A9 m9 c9,q⟩:WlP)) by simpa using hCl) HOk.out.vw HQq.out;refine bodyPost_ret (v:=.tuple #[.agg (wlC (⟨n,mm,x.e,x.k,x.t,x.ch,x.ad,.slice A9 m9 c9,q⟩:WlP)).toArray,.int .i64 e9]) (by simp[results,results108,asAddr,Act.put,hload]) rfl ⟨⟨(⟨n,mm,x.e,x.k,x.t,x.ch,x.ad,.slice A9 m9 c9,q⟩:WlP),e9,rfl,?_⟩,hB.out.grown hgl hB.out.size (fun k hk=>by cases hk;omega)⟩;obtain⟨l0,hl0,ho⟩:=hO9.out;obtain⟨l8,hl8⟩:=OwnB.rd (⟨l0,hl0,own_g ho hgl hwu⟩:OwnB wl wu.heap.size (.slice A9 m9 c9) m9);exact⟨⟨HOk.out.vw,HQq.out,A9,m9,c9,l8,rfl,hl8,by omega⟩,fun b' o' n' c' e=>by injection e with e;have:=(ho.lt b' (by rw[e];rfl)).1;omega⟩
 refine join_ (σ:=Nat) 2 (bt 13 2047) (fun s=>match s with|i=>[(21,.int .i64 i),(24,.pointer (some ⟨b,110+i*32,none⟩)),(25,.agg (ints .u8 ((x.nd.drop (i*32)).take 32)).toArray)]) (fun s w'=>match s with|i=>Hid (Blk w' w.heap.size .u8 43 p)/\Hid (Blk w' (w.heap.size+1) .u8 43 q)/\Hid (Blk w' (w.heap.size+2) .u8 43 sx)/\Hid (Cel w' (w.heap.size+3) 137 (wlC zwl))/\Hid (Bl w w')/\Hid (i<3)) ?_ (fun st1=>?_)
 · rintro i wc ⟨HP,HQ,HS,HR,HB,HI⟩;refine mE ?_;have hH:=trivial;refine one_ (i:=11) (N:=some 12) (bt 13 4095) rfl rfl kk dd (fun K hK=>?_);obtain⟨wn,hwn⟩:=ex_ (wc.alloc (.cells (ints .u8 zl).toArray 43));refine value_ rr rfl (v:=.pointer (some ⟨wc.heap.size,0,none⟩)) (w1:=wn) (vv hwn) ?_;have hbn:=nb_ hwn;have hlt3:=HR.out.lt;obtain⟨b11,hb11⟩:=ex_ (wc.heap.size);(have H12:Hid (Row wn b11 .u8 43 32):=by rw[hwn,hb11];exact Row.new zl _ rfl rfl);(have H12b:Hid (w.heap.size+3<b11):=by rw[hb11];exact hlt3);rw[<-hb11];clear hwn hb11 hlt3;have HPn:=hd_ (HP.out.below hbn HP.out.lt);have HQn:=hd_ (HQ.out.below hbn HQ.out.lt);have HSn:=hd_ (HS.out.below hbn HS.out.lt);have HRn:=hd_ (HR.out.below hbn HR.out.lt);have HBn:=tb_ HB hbn;have HIn:=hd_ (HI.out);refine hK.out _ _ (⟨((HC0.out.below HBn.out hbw).cell 73).trans ((py_lf HOk.out).trans (by rw[HMM.out])),HC0.out.below HBn.out hbw⟩) (fun hH=>?_);refine mN ?_;exact mH (st0 (i,b11) wn ⟨HPn,HQn,HSn,HRn,HBn,HIn,H12,H12b⟩)
 refine join_ (σ:=Nat) 4 (bt 13 2495) (fun s=>match s with|b11=>[(12,.pointer (some ⟨b11,0,none⟩))]) (fun s w'=>match s with|b11=>Hid (Blk w' w.heap.size .u8 43 p)/\Hid (Blk w' (w.heap.size+1) .u8 43 q)/\Hid (Blk w' (w.heap.size+2) .u8 43 sx)/\Hid (Cel w' (w.heap.size+3) 137 (wlC zwl))/\Hid (Bl w w')/\Hid (Row w' b11 .u8 43 32)/\Hid (w.heap.size+3<b11)) ?_ (fun st2=>?_)
 · rintro b11 wc ⟨HP,HQ,HS,HR,HB,H12,H12b⟩;refine mE ?_;have hH:=trivial;refine one_ (i:=6) (N:=some 21) (bt 13 2559) rfl rfl kk dd (fun K hK=>?_);refine goes_ func124 kk rfl #[.int .i64 mm,.int .i64 n] rr rfl rfl mL ?_;refine(place_any mm n _).mono ?_;rintro _ wn ⟨⟨i,hi,rfl⟩,hbn⟩;refine⟨_,rfl,?_⟩;have HI:Hid (i<3):=hi;(have hi3:(i:Int)<3:=by omega);have HPn:=hd_ (HP.out.below hbn HP.out.lt);have HQn:=hd_ (HQ.out.below hbn HQ.out.lt);have HSn:=hd_ (HS.out.below hbn HS.out.lt);have HRn:=hd_ (HR.out.below hbn HR.out.lt);have HBn:=tb_ HB hbn;have H12n:=hd_ (H12.out.below hbn H12.out.lt);have H12bn:=hd_ (H12b.out);refine hK.out _ _ (⟨((HC0.out.below HBn.out hbw).cell 73).trans ((py_lf HOk.out).trans (by rw[HMM.out])),HC0.out.below HBn.out hbw⟩) (fun hH=>?_);refine mN ?_;refine ts_ 9 2 1 (bt 13 4095) hH ?_;refine mD ?_;(repeat (first|(refine tk_ 43 (.tmp 24) b (110+i*32) (ints .u8 ((x.nd.drop (i*32)).take 32)) (fun _ h=>py_nr HOk.out h.2.out i HI.out) underlying43 rfl (hi43 (py_nl HOk.out i HI.out)).out ?_)|(refine uA ?_)|(refine mB2 ?_)));refine takes_nil ?_;exact mH (st0 (i,b11) wn ⟨HPn,HQn,HSn,HRn,HBn,HI,H12n,H12bn⟩)
 have hH:=trivial;refine two_ (i:=6) (j:=11) (Ni:=some 21) (Nj:=some 12) (bt 13 511) (bt 13 2495) rfl rfl rfl rfl kk dd dd (fun K hK=>?_) (fun K hK=>?_)
 · refine goes_ func124 kk rfl #[.int .i64 mm,.int .i64 n] rr rfl rfl mL ?_;refine(place_any mm n _).mono ?_;rintro _ wn ⟨⟨i,hi,rfl⟩,hbn⟩;refine⟨_,rfl,?_⟩;have HI:Hid (i<3):=hi;(have hi3:(i:Int)<3:=by omega);have HPn:=hd_ (HP.out.below hbn HP.out.lt);have HQn:=hd_ (HQ.out.below hbn HQ.out.lt);have HSn:=hd_ (HS.out.below hbn HS.out.lt);have HRn:=hd_ (HR.out.below hbn HR.out.lt);have HBn:=tb_ HB hbn;refine hK.out _ _ (⟨((HC0.out.below HBn.out hbw).cell 73).trans ((py_lf HOk.out).trans (by rw[HMM.out])),HC0.out.below HBn.out hbw⟩) (fun hH=>?_);refine mN ?_;refine ts_ 9 2 2 (bt 13 2047) hH ?_;refine mD ?_;(repeat (first|(refine tk_ 43 (.tmp 24) b (110+i*32) (ints .u8 ((x.nd.drop (i*32)).take 32)) (fun _ h=>py_nr HOk.out h.2.out i HI.out) underlying43 rfl (hi43 (py_nl HOk.out i HI.out)).out ?_)|(refine uA ?_)|(refine mB2 ?_)));refine takes_nil ?_;exact mH (st1 i wn ⟨HPn,HQn,HSn,HRn,HBn,HI⟩)
 obtain⟨wn,hwn⟩:=ex_ (w1d.alloc (.cells (ints .u8 zl).toArray 43));refine value_ rr rfl (v:=.pointer (some ⟨w1d.heap.size,0,none⟩)) (w1:=wn) (vv hwn) ?_;have hbn:=nb_ hwn;have hlt3:=HR.out.lt;obtain⟨b11,hb11⟩:=ex_ (w1d.heap.size);have H12:Hid (Row wn b11 .u8 43 32):=by rw[hwn,hb11];exact Row.new zl _ rfl rfl
 have H12b:Hid (w.heap.size+3<b11):=by rw[hb11];exact hlt3
 rw[<-hb11];clear hwn hb11 hlt3;have HPn:=hd_ (HP.out.below hbn HP.out.lt);have HQn:=hd_ (HQ.out.below hbn HQ.out.lt);have HSn:=hd_ (HS.out.below hbn HS.out.lt);have HRn:=hd_ (HR.out.below hbn HR.out.lt);have HBn:=tb_ HB hbn;refine hK.out _ _ (⟨((HC0.out.below HBn.out hbw).cell 73).trans ((py_lf HOk.out).trans (by rw[HMM.out])),HC0.out.below HBn.out hbw⟩) (fun hH=>?_);refine mN ?_;exact mH (st2 b11 wn ⟨HPn,HQn,HSn,HRn,HBn,H12,H12b⟩)
end Go.Proofs.YtppjnahcnofokaaGreat.T
namespace Go.Proofs.YtppjnahcnofokaaGreat.T
open Go.RowKit Go.Proofs.YtppjnahcnofokaaGreatW.PrintLast
open Go.Proofs.Tryz
variable{k:IntKind}{a:Act}{b i n B base m fuel D B':Nat}{l ch:List Int}{w w' w1 w2:World}{t:TypeId}{P:Program}{cs xs vs l3:List Value}{A A':Option Addr}{o oi:Oper}{e s f st fl:Int}{ops:Array Oper}{rest l0:List Oper}{v:Value}{r:Option Nat}{rs rs2:List (Option Addr×Nat×Nat×List Int)}{E:Prop}{ad ai go:List Bool}{N:Act->Prop}{place:Nat->Option (Nat×Nat)}{bad:Bool}{es es':List (Int×List Int)}{T:List TypeId}
theorem et131:ET 131 137 108 376:=et_of (z:=.agg (wlC zwl).toArray) underlying131 kk kk dd
theorem own_gr2{e size c:Nat}(h:w.ownsRow base e size v n xs)(hg:Gr2 b c w w')(hb:b<base)(hc:c<base):w'.ownsRow base e size v n xs:=
 ⟨h.1,h.2.imp id (fun⟨g,cap,cur,e1,h1,h2,h3⟩=>⟨g,cap,cur,e1,h1,(hg.block g (Array.getElem?_eq_some_iff.1 h2).1 o_ o_).trans h2,h3⟩)⟩
structure CmOw (w:World) (B:Nat) (y:CmP):Prop where
 tag:y.tag.length=32
 ops:∃A n c l,y.O=.slice A n c/\w.ownsRow B 55 5 (.slice A n c) n (ints .i64 l)/\n<=4
 votes:∃A n c l,y.V=.slice A n c/\w.ownsRow B 118 3 (.slice A n c) n (ints .i64 l)/\n<=8
 boxes:∃A n c rs,y.X=.slice A n c/\BxS w B (.slice A n c) n rs/\n<=30
variable{y:CmP}
theorem CmOw.ok(h:CmOw w B y):CmOk w y:=by
 obtain⟨h1,⟨A,n,c,l,e1,h2,h3⟩,⟨A4,n4,c4,l4,e4,h5,h6⟩,⟨A7,n7,c7,rs,e7,h8,h9⟩⟩:=h;exact⟨h1,⟨A,n,c,l,e1,(own_rgI h2).rg,h3⟩,⟨A4,n4,c4,l4,e4,(own_rgI h5).rg,h6⟩,⟨A7,n7,c7,e7,h8.rdl,h9⟩⟩
theorem CmOw.below(h:CmOw w B y)(hb:Bl w w'):CmOw w' B y:=by
 obtain⟨h1,⟨A,n,c,l,e1,h2,h3⟩,⟨A4,n4,c4,l4,e4,h5,h6⟩,⟨A7,n7,c7,rs,e7,h8,h9⟩⟩:=h;exact⟨h1,⟨A,n,c,l,e1,own_below h2 hb,h3⟩,⟨A4,n4,c4,l4,e4,own_below h5 hb,h6⟩,⟨A7,n7,c7,rs,e7,h8.below hb,h9⟩⟩
theorem CmOw.g{d:Nat}(h:CmOw w B y)(hg:w.grownBy w' (some d))(hd:d<B):CmOw w' B y:=by
 obtain⟨h1,⟨A,n,c,l,e1,h2,h3⟩,⟨A4,n4,c4,l4,e4,h5,h6⟩,⟨A7,n7,c7,rs,e7,h8,h9⟩⟩:=h;exact⟨h1,⟨A,n,c,l,e1,own_g h2 hg hd,h3⟩,⟨A4,n4,c4,l4,e4,own_g h5 hg hd,h6⟩,⟨A7,n7,c7,rs,e7,h8.g hg hd,h9⟩⟩
theorem CmOw.stag(h:CmOw w B y)(hl:l.length=32):CmOw w B ⟨y.e,y.f,y.O,y.V,y.s,y.p0,y.p1,y.p2,y.X,l,y.E,y.S⟩:=⟨hl,h.ops,h.votes,h.boxes⟩
theorem CmOw.ssig(h:CmOw w B y)(E S:Int):CmOw w B ⟨y.e,y.f,y.O,y.V,y.s,y.p0,y.p1,y.p2,y.X,y.tag,E,S⟩:=⟨h.tag,h.ops,h.votes,h.boxes⟩
theorem Rd.grown0{c:Nat}{row:Option Nat}(h:Rd w k A n c l)(hg:w.grownBy w' row)(hne:0<c->∀b o,A=some ⟨b,o,none⟩->some b≠row):Rd w' k A n c l:=by
 by_cases hc:0<c
 · exact h.grown hg (hne hc)
 exact⟨h.len,h.cap,fun h0=>absurd h0 hc⟩
structure WlS (w:World) (base:Nat) (v:Value) (n:Nat) (zs:List WlP):Prop where
 len:zs.length=n
 own:w.ownsRow base 137 108 v n (zs.flatMap wlC)
 ok:∀z ∈ zs,WlOk w z
 far:∀z ∈ zs,∀b o m c,z.X=.slice (some ⟨b,o,none⟩) m c->0<c->base<=b/\b<w.heap.size/\some b≠v.ownBlock
theorem WlS.nil(w:World)(base:Nat):WlS w base (.slice none 0 0) 0 []:=⟨rfl,World.ownsRow_nil _ _ _ _,(fun z h=>by cases h),(fun z h=>by cases h)⟩
variable{zs:List WlP}
theorem WlS.below(h:WlS w base v n zs)(hb:Bl w w'):WlS w' base v n zs:=
 ⟨h.len,own_below h.own hb,fun z hz=>(h.ok z hz).below hb,fun z hz b o m c e hc=>⟨(h.far z hz b o m c e hc).1,Nat.lt_of_lt_of_le (h.far z hz b o m c e hc).2.1 hb.size,(h.far z hz b o m c e hc).2.2⟩⟩
theorem WlOk.grown{z:WlP}{row:Option Nat}(h:WlOk w z)(hg:w.grownBy w' row)(hne:∀b o m c,z.X=.slice (some ⟨b,o,none⟩) m c->0<c->some b≠row):WlOk w' z:=by
 obtain⟨h1,h2,A,n,c,l,e,h3,h4⟩:=h;exact⟨h1,h2,A,n,c,l,e,h3.grown0 hg (fun hc b o ea=>hne b o n c (by rw[e,ea]) hc),h4⟩
theorem WlS.g{d:Nat}(h:WlS w base v n zs)(hg:w.grownBy w' (some d))(hd:d<base):WlS w' base v n zs:=
 ⟨h.len,own_g h.own hg hd,fun z hz=>(h.ok z hz).grown hg (fun b o m c e hc=>by have:=(h.far z hz b o m c e hc).1;simp;omega),fun z hz b o m c e hc=>⟨(h.far z hz b o m c e hc).1,Nat.lt_of_lt_of_le (h.far z hz b o m c e hc).2.1 hg.size,(h.far z hz b o m c e hc).2.2⟩⟩
theorem WlS.app{c':Nat}{z:WlP}(h:WlS w base v n zs)(hz:WlOk w z)(hfar:∀b o m c,z.X=.slice (some ⟨b,o,none⟩) m c->0<c->base<=b/\b<w.heap.size/\some b≠v.ownBlock)(hown:w'.ownsRow base 137 108 (.slice A' (n+1) c') (n+1) (zs.flatMap wlC++wlC z))(hg:w.grownBy w' v.ownBlock)(hat:(Value.slice A' (n+1) c').ownBlock=v.ownBlock\/(Value.slice A' (n+1) c').ownBlock=some w.heap.size):WlS w' base (.slice A' (n+1) c') (n+1) (zs ++ [z]):=by
 have hf:∀y ∈ zs ++ [z],∀b o m c,y.X=.slice (some ⟨b,o,none⟩) m c->0<c->base<=b/\b<w.heap.size/\some b≠v.ownBlock:=by
  intro y hy;rcases List.mem_append.1 hy with h'|h'
  · exact h.far y h'
  simp at h';subst h';exact hfar
 have ho:∀y ∈ zs ++ [z],WlOk w y:=by
  intro y hy;rcases List.mem_append.1 hy with h'|h'
  · exact h.ok y h'
  simp at h';subst h';exact hz
 refine⟨by simp[h.len],by simpa[List.flatMap_append] using hown,fun y hy=>(ho y hy).grown hg (fun b o m c e hc=>(hf y hy b o m c e hc).2.2),fun y hy b o m c e hc=>?_⟩;obtain⟨h1,h2,h3⟩:=hf y hy b o m c e hc;refine⟨h1,Nat.lt_of_lt_of_le h2 hg.size,?_⟩;rcases hat with e'|e'
 · rw[e'];exact h3
 rw[e'];simp;omega
def WlL(w:World)(A:Option Addr)(n c:Nat):Prop:=n<=c/\∀j,j<n->∃b o z,A=some ⟨b,o,none⟩/\b<w.heap.size/\w.rangeAt b (o+j*108) (wlC z)/\WlOk w z
theorem wl_chunk:∀(zs:List WlP) (_:∀z ∈ zs,(wlC z).length=108) (j:Nat) (hj:j<zs.length) (k:Nat) (v:Value),(wlC zs[j])[k]? = some v->(zs.flatMap wlC)[j*108+k]? = some v
 | [],_,j,hj,_,_,_=>by simp at hj
 | z :: zs,h,j,hj,k,v,hv=>by
  have hz:=h z s_;rw[List.flatMap_cons]
  cases j with
  | zero=>
   have hk:k<(wlC z).length:=(List.getElem?_eq_some_iff.1 hv).1;rw[Nat.zero_mul,Nat.zero_add,List.getElem?_append_left hk];exact hv
  | succ j=>
   rw[List.getElem?_append_right (by rw[hz];omega),hz,show(j+1)*108+k-108=j*108+k by omega];exact wl_chunk zs (fun y hy=>h y (by simp[hy])) j (by simpa using hj) k v (by simpa using hv)
theorem WlS.read{c:Nat}(h:WlS w base (.slice A n c) n zs):WlL w A n c:=by
 have hi:=own_rgI h.own;refine⟨hi.rg.cap,fun j hj=>?_⟩;have hcap:=hi.rg.cap;obtain⟨b,o,e,hlt,hr⟩:=hi.rg.at_ o_;have hlen:=h.len;have hm:zs[j] ∈ zs:=List.getElem_mem _;refine⟨b,o,zs[j],e,hlt,fun k v hv=>?_,h.ok _ hm⟩;rw[Nat.add_assoc];exact hr _ v (wl_chunk zs (fun z hz=>wl_len (h.ok z hz).vw (h.ok z hz).tag) j o_ k v hv)
theorem WlL.nil(w:World):WlL w none 0 0:=⟨Nat.le_refl _,fun j hj=>by omega⟩
def CoR(x:PyP)(w:World)(r:Ending)(w':World):Prop:=∃y A n c p z,r=.returned (.tuple #[.agg (cmC y).toArray,.slice A n c,.pointer p,.int .i64 z])/\CmOk w' y/\WlL w' A n c/\n<=8/\(∀k,k<w.heap.size->∀W2,w'.grownBy W2 (some k)->CmOk W2 y/\WlL W2 A n c)/\∀a,p=some a->∃b2 x2,a=⟨b2,0,none⟩/\w.heap.size<=b2/\Cel w' b2 82 (pyC x2)/\PyOk x2/\x2.e=wrap64 (x.e+1)/\x2.G=x.G/\x2.lf=x.lf
def CoPost(g:Nat)(x:PyP)(w:World)(r:Ending)(w':World):Prop:=CoR x w r w'/\(∃s,KeyAt w' g s)/\ChgK g w w'
variable{x:PyP}
theorem co_fail{g:Nat}{z:Int}(hk:KeyAt w' g s)(hc:ChgK g w w'):CoPost g x w (.returned (.tuple #[.agg (cmC zcm).toArray,.slice none 0 0,.pointer none,.int .i64 z])) w':=
 ⟨⟨zcm,none,0,0,none,z,rfl,zcmOk w',WlL.nil w',by omega,fun _ _ W2 _=>⟨zcmOk W2,WlL.nil W2⟩,fun a h=>by cases h⟩,⟨s,hk⟩,hc⟩
theorem co_fail_b{g:Nat}{z:Int}(hk:KeyAt w g s)(hb:Bl w w'):CoPost g x w (.returned (.tuple #[.agg (cmC zcm).toArray,.slice none 0 0,.pointer none,.int .i64 z])) w':=
 co_fail (hk.below hb hk.lt) (ChgK.of_below hb)
theorem built130(parts:List (Nat×Value)):prog.built 130 parts=Instr.fill (#[(0,1),(1,1),(2,1),(3,1),(4,1),(5,3),(8,1),(9,32),(41,2)][·]?) (cmC zcm).toArray parts:=by kernel_rfl
theorem run_build130(w:World):(Instr.build 130 #[]).run prog w=.ok (.agg (cmC zcm).toArray) w:=by
 refine run_build w 130 _ _ ?_;rw[built130];rfl
theorem cm_ksplit(y:CmP):cmC y=([.int .i64 y.e,.int .i64 y.f,y.O,y.V]:List Value) ++ [.int .i64 y.s,.int .i64 y.p0,.int .i64 y.p1,.int .i64 y.p2]++([y.X]++(ints .u8 y.tag ++ [.int .i64 y.E,.int .i64 y.S])):=by simp[cmC]
end Go.Proofs.YtppjnahcnofokaaGreat.T
namespace Go.Proofs.YtppjnahcnofokaaGreat.T
open Go.RowKit Go.Proofs.YtppjnahcnofokaaGreatW.PrintLast
open Go.Proofs.Tryz
variable{k:IntKind}{a:Act}{b i n B base m fuel D B':Nat}{l ch:List Int}{w w' w1 w2:World}{t:TypeId}{P:Program}{cs xs vs l3:List Value}{A A':Option Addr}{o oi:Oper}{e s f st fl:Int}{ops:Array Oper}{rest l0:List Oper}{v:Value}{r:Option Nat}{rs rs2:List (Option Addr×Nat×Nat×List Int)}{E:Prop}{ad ai go:List Bool}{N:Act->Prop}{place:Nat->Option (Nat×Nat)}{bad:Bool}{es es':List (Int×List Int)}{T:List TypeId}
theorem Cel.apart{b':Nat}{t':TypeId}{vs':List Value}(h:Cel w b t vs)(h':Cel w b' t' vs')(hne:t≠t'):b≠b':=by
 rintro rfl;rw[Cel,h']at h;injection h with h
 injection h with _ h
 exact hne h.symm
theorem KeyAt.apart{g:Nat}(h:KeyAt w g s)(h':Cel w b t vs)(hne:t≠161):b≠g:=by
 rintro rfl;obtain⟨_,d,p,m,u,h,_⟩:=h;rw[Cel,h]at h';injection h' with h'
 injection h' with _ h'
 exact hne h'.symm
theorem BxS.mono{base':Nat}(h:BxS w base v n rs)(hb:base'<=base):BxS w base' v n rs:=
 ⟨⟨h.rows.len,own_mono h.rows.own hb,h.rows.each,h.rows.far⟩,h.small,fun r hr k hk=>Nat.le_trans hb (h.lo r hr k hk)⟩
theorem BxS.nil(w:World)(base:Nat):BxS w base (.slice none 0 0) 0 []:=⟨RowsO.nil _ _,fun r h=>(by cases h),fun r h=>(by cases h)⟩
theorem zcmOw(w:World)(B:Nat):CmOw w B zcm:=⟨rfl,⟨none,0,0,[],rfl,World.ownsRow_nil _ _ _ _,by omega⟩,⟨none,0,0,[],rfl,World.ownsRow_nil _ _ _ _,by omega⟩,⟨none,0,0,[],rfl,BxS.nil w B,by omega⟩⟩
variable{y:CmP}
theorem CmOw.shead(h:CmOw w B y)(e f:Int):CmOw w B ⟨e,f,y.O,y.V,y.s,y.p0,y.p1,y.p2,y.X,y.tag,y.E,y.S⟩:=⟨h.tag,h.ops,h.votes,h.boxes⟩
theorem CmOw.skeys(h:CmOw w B y)(s p0 p1 p2:Int):CmOw w B (y.keys s p0 p1 p2):=⟨h.tag,h.ops,h.votes,h.boxes⟩
theorem CmOw.sops{c:Nat}(h:CmOw w B y)(hO:w.ownsRow B 55 5 (.slice A n c) n (ints .i64 l))(hn:n<=4):CmOw w B ⟨y.e,y.f,.slice A n c,y.V,y.s,y.p0,y.p1,y.p2,y.X,y.tag,y.E,y.S⟩:=⟨h.tag,⟨A,n,c,l,rfl,hO,hn⟩,h.votes,h.boxes⟩
theorem CmOw.svotes{c:Nat}(h:CmOw w B y)(hO:w.ownsRow B 118 3 (.slice A n c) n (ints .i64 l))(hn:n<=8):CmOw w B ⟨y.e,y.f,y.O,.slice A n c,y.s,y.p0,y.p1,y.p2,y.X,y.tag,y.E,y.S⟩:=⟨h.tag,h.ops,⟨A,n,c,l,rfl,hO,hn⟩,h.boxes⟩
theorem CmOw.sboxes{c:Nat}(h:CmOw w B y)(hO:BxS w B (.slice A n c) n rs)(hn:n<=30):CmOw w B ⟨y.e,y.f,y.O,y.V,y.s,y.p0,y.p1,y.p2,.slice A n c,y.tag,y.E,y.S⟩:=⟨h.tag,h.ops,h.votes,⟨A,n,c,rs,rfl,hO,hn⟩⟩
theorem CmOw.gr2{c:Nat}(h:CmOw w B y)(hX:y.X=.slice none 0 0)(hg:Gr2 b c w w')(hb:b<B)(hc:c<B):CmOw w' B y:=by
 obtain⟨h1,⟨A,n,c',l,e1,h2,h3⟩,⟨A4,n4,c4,l4,e4,h5,h6⟩,-⟩:=h;exact⟨h1,⟨A,n,c',l,e1,own_gr2 h2 hg hb hc,h3⟩,⟨A4,n4,c4,l4,e4,own_gr2 h5 hg hb hc,h6⟩,⟨none,0,0,[],hX,BxS.nil w' B,by omega⟩⟩
theorem CmOw.chgk{g:Nat}(h:CmOw w B y)(hg:ChgK g w w')(hb:g<B):CmOw w' B y:=h.g hg.gr hb
structure CoS (w w':World) (b bv ba bx B:Nat) (x:PyP) (y:CmP) (x2:PyP) (V:List Value) (lA:List Bool) (p:List Int):Prop where
 N:(w.heap.size+1<bv/\w.heap.size+1<ba/\w.heap.size+1<bx)/\(bv<B/\ba<B/\bx<B)/\bv≠ba/\bv≠bx/\ba≠bx/\b<w.heap.size
 P:Blk w' w.heap.size .u8 43 p
 C:Cel w' (w.heap.size+1) 130 (cmC y)
 O:CmOw w' B y
 V:Cel w' bv 45 V
 A:Cel w' ba 41 (bools lA)
 X:Cel w' bx 82 (pyC x2)
 D:Cel w' b 82 (pyC x)
section
variable {w w' w'':World} {b bv ba bx B:Nat} {x:PyP} {y:CmP} {x2:PyP} {V:List Value} {lA:List Bool} {p:List Int}
theorem CoS.below(h:CoS w w' b bv ba bx B x y x2 V lA p)(hb:Bl w' w''):CoS w w'' b bv ba bx B x y x2 V lA p:=
 ⟨h.N,h.P.below hb h.P.lt,h.C.below hb h.C.lt,h.O.below hb,h.V.below hb h.V.lt,h.A.below hb h.A.lt,h.X.below hb h.X.lt,h.D.below hb h.D.lt⟩
theorem CoS.drew(h:CoS w w' b bv ba bx B x y x2 V lA p):CoS w w'.drew b bv ba bx B x y x2 V lA p:=h.below (Below.refl _ _).drew
theorem CoS.size(h:CoS w w' b bv ba bx B x y x2 V lA p):w.heap.size+1<w'.heap.size/\bv<w'.heap.size/\ba<w'.heap.size/\bx<w'.heap.size:=⟨h.C.lt,h.V.lt,h.A.lt,h.X.lt⟩
theorem CoS.setC{y':CmP}(h:CoS w w' b bv ba bx B x y x2 V lA p)(hg:w'.grownBy w'' (some (w.heap.size+1)))(hC:Cel w'' (w.heap.size+1) 130 (cmC y'))(hO:CmOw w'' B y'):CoS w w'' b bv ba bx B x y' x2 V lA p:=by
 obtain⟨⟨a1,a2,a3⟩,-,-,-,-,a4⟩:=h.N;exact⟨h.N,h.P.grown hg s_,hC,hO,h.V.grown hg s1_,h.A.grown hg s1_,h.X.grown hg s1_,h.D.grown hg s1_⟩
theorem CoS.setV{V':List Value}(h:CoS w w' b bv ba bx B x y x2 V lA p)(hg:w'.grownBy w'' (some bv))(hC:Cel w'' bv 45 V'):CoS w w'' b bv ba bx B x y x2 V' lA p:=by
 obtain⟨⟨a1,a2,a3⟩,⟨a5,a6,a7⟩,a8,a9,a10,a4⟩:=h.N;exact⟨h.N,h.P.grown hg s1_,h.C.grown hg s1_,h.O.g hg a5,hC,h.A.grown hg s1_,h.X.grown hg s1_,h.D.grown hg s1_⟩
theorem CoS.setX{x3:PyP}(h:CoS w w' b bv ba bx B x y x2 V lA p)(hg:w'.grownBy w'' (some bx))(hC:Cel w'' bx 82 (pyC x3)):CoS w w'' b bv ba bx B x y x3 V lA p:=by
 obtain⟨⟨a1,a2,a3⟩,⟨a5,a6,a7⟩,a8,a9,a10,a4⟩:=h.N;exact⟨h.N,h.P.grown hg s1_,h.C.grown hg s1_,h.O.g hg a7,h.V.grown hg s1_,h.A.grown hg s1_,hC,h.D.grown hg s1_⟩
theorem CoS.climb{y':CmP}{x3:PyP}{p0 p1 p2:Int}(h:CoS w w' b bv ba bx B x y x2 V lA p)(hX:y.X=.slice none 0 0)(hy:y'=y.keys s p0 p1 p2)(hg:Gr2 bx (w.heap.size+1) w' w'')(hC:Cel w'' (w.heap.size+1) 130 (cmC y'))(hD:Cel w'' bx 82 (pyC x3)):CoS w w'' b bv ba bx B x y' x3 V lA p:=by
 subst hy;obtain⟨⟨a1,a2,a3⟩,⟨a5,a6,a7⟩,a8,a9,a10,a4⟩:=h.N;exact⟨h.N,(hg.block _ h.P.lt o_ o_).trans h.P,hC,(h.O.gr2 hX hg o_ o_).skeys _ _ _ _,h.V.gr2 hg o_ o_,h.A.gr2 hg o_ o_,hD,h.D.gr2 hg o_ o_⟩
theorem CoS.chgk{g:Nat}(h:CoS w w' b bv ba bx B x y x2 V lA p)(hk:KeyAt w' g s)(hg:ChgK g w' w'')(hgw:g<w.heap.size):CoS w w'' b bv ba bx B x y x2 V lA p:=by
 obtain⟨⟨a1,a2,a3⟩,⟨a5,a6,a7⟩,a8,a9,a10,a4⟩:=h.N;have hb:=hk.apart h.D dd;exact⟨h.N,h.P.grown hg.gr s1_,h.C.grown hg.gr s1_,h.O.chgk hg o_,h.V.grown hg.gr s1_,h.A.grown hg.gr s1_,h.X.grown hg.gr s1_,h.D.grown hg.gr s1_⟩
theorem below_new{o:Obj}(h1:w1=w.alloc o)(hg:w1.grownBy w2 (some w.heap.size)):Bl w w2:=by
 subst h1;exact b0_.grown hg s_ (fun k hk=>by cases hk;omega)
theorem cm_isplit(y:CmP):cmC y=[] ++ [.int .i64 y.e]++([.int .i64 y.f,y.O,y.V,.int .i64 y.s,.int .i64 y.p0,.int .i64 y.p1,.int .i64 y.p2,y.X]++(ints .u8 y.tag ++ [.int .i64 y.E,.int .i64 y.S])):=by simp[cmC]
end
theorem fill_one(cs:List Value)(n:Nat)(l0:List Value)(h0:l0.length=n)(hn:cs.length=n):Instr.fill (fun i=>some (i*n,n)) l0.toArray [(0,.agg cs.toArray)]=some cs.toArray:=by
 have e:l0.toArray=([]++l0 ++ []).toArray:=by simp
 rw[e,fill_splice (l1:=[]) (l0:=l0) (l3:=[]) (vs:=cs) (off:=0) (size:=n) s_ rfl rfl hn (by rw[h0,hn])];simp[Instr.fill]
theorem wl_bs{Q:Exit->Act->World->Prop}(hgd:o.guard=none)(X:Operand)(ho:o.op=.buildSlice 131 1 #[(0,X)])(z:WlP)(hz:(wlC z).length=108)(hx:a.eval X=.agg (wlC z).toArray)(h:wpList prog ops Q rest (a.put o.dst (.slice (some ⟨w.heap.size,0,none⟩) 1 1)) (w.alloc (.cells (wlC z).toArray 137))):wpList prog ops Q (o :: rest) a w:=by
 obtain⟨ht,i,z0,hi,hz0,hsz,hby,hzs,hp⟩:=et131;refine wpList_buildSlice hgd 131 137 1 #[(0,X)] ho (wlC z).toArray i z0 ht hi hz0 (by rw[hsz];decide) (by rw[hsz];decide) ?_ h;rw[hsz];simp only[List.map_toArray,List.map_cons,List.map_nil,hx];obtain⟨l0,hl0⟩:∃l0:List Value,((Array.range (1*108)).map (z0.cells[· % z0.cells.size]!))=l0.toArray:=⟨_,(Array.toArray_toList).symm⟩;rw[hl0];refine fill_one _ 108 l0 ?_ hz;have:=congrArg Array.size hl0;simpa using this.symm
end Go.Proofs.YtppjnahcnofokaaGreat.T
