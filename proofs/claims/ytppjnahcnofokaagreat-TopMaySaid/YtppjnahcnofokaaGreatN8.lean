import Derived.Test.YtppjnahcnofokaaGreatN0
import Derived.Test.YtppjnahcnofokaaGreatN3
import Derived.Test.YtppjnahcnofokaaGreatN7
set_option maxRecDepth 100000
set_option maxHeartbeats 32000000
set_option linter.unusedSimpArgs false
set_option linter.unusedVariables false
namespace Go.Proofs.YtppjnahcnofokaaGreat.T
open Go.RowKit Go.Proofs.YtppjnahcnofokaaGreatW.PrintLast
open Go.Proofs.Tryz
variable{k:IntKind}{a:Act}{b i n B base m fuel D B':Nat}{l ch t0:List Int}{w w' w1 w2:World}{t:TypeId}{P:Program}{cs xs vs l3:List Value}{A A':Option Addr}{o oi:Oper}{e s f st fl:Int}{ops:Array Oper}{rest l0:List Oper}{v:Value}{r:Option Nat}{rs rs2:List (Option Addr×Nat×Nat×List Int)}{E:Prop}{ad ai go:List Bool}{N:Act->Prop}{place:Nat->Option (Nat×Nat)}{bad:Bool}{es es':List (Int×List Int)}{T:List TypeId}
theorem copy_row{Q:Exit->Act->World->Prop}(hgd:o.guard=none)(d s:Operand)(ho:o.op=.call {callee:=.builtin .copy,args:=#[d,s],argTypes:=#[31,31] })(g N n c:Nat)(t:TypeId)(A:Option Addr)(l:List Int)(hd:a.eval d=.slice (some ⟨g,0,none⟩) N N)(hs:a.eval s=.slice A n c)(hr:Rd w .u8 A n c l)(hn:n<=N)(hn0:0<n)(hg:Row w g .u8 t N)(h:∀w',Row w' g .u8 t N->w.grownBy w' (some g)->wpList prog ops Q rest (a.put o.dst (goInt n)) w'):wpList prog ops Q (o :: rest) a w:=by
 obtain⟨l0,hl0,hB⟩:=hg;have hlen:=hr.len;have hcs:(ints .u8 l).length=n:=by rw[ints_len,hlen]
 obtain⟨b,o',e,hlt,hrr⟩:=hr.at_ (by have:=hr.cap;omega);subst e;refine wpList_copy_own hgd d s 31 31 ho 5 underlying31 kk g 0 N N ⟨b,o',none⟩ n c hd hs (ints .u8 l0).toArray t hB (ints .u8 l) (by rw[hcs];exact(Nat.min_eq_left hn).symm) (fun j v hv=>by rw[addr_add];exact hrr j v hv) (by rw[hcs];simp[ints_len];omega) (ints_one8 _ _) ?_;rw[hcs];refine h _ ⟨l0.take 0++(l++l0.drop (0+l.length)),by simp;omega,?_⟩ ⟨rfl,rfl,rfl,by simp[World.setRow],fun k _ hne=>setRow_other _ _ _ _ (fun e=>hne (by rw[e]))⟩;have:=setRow_heap w g _ (((ints .u8 l0).toArray.toList.take 0++(ints .u8 l++(ints .u8 l0).toArray.toList.drop (0+n))).toArray) t _ hB;unfold Blk;rw[this,<- hlen];simp[ints]
def KeyV(w:World)(B:Nat)(K:Value):Prop:=K=.pointer none\/∃g s,B<=g/\KeyAt w g s/\K=.pointer (some ⟨g,0,none⟩)
theorem open_k(K:Value)(B:Nat)(A:Option Addr)(n c:Nat)(l:List Int)(w:World)(hK:KeyV w B K)(hB:B<=w.heap.size)(hr:Rd w .u8 A n c l)(hn:n<=1000000):Calls prog 122 #[K,.slice A n c] w fun r w'=>OwnE w 200 r w'/\Below B w w':=by
 rcases hK with rfl|⟨g,s,hg,hk,rfl⟩
 · refine(open_nil A n c l w hr hn).mono ?_;rintro r w' ⟨h1,h2⟩;exact⟨h1,h2.mono hB⟩
 refine(open_any g s A n c l w hk hr hn).mono ?_;rintro r w' ⟨h1,h2,h3⟩;exact⟨h1,h3.below hg hB⟩
theorem pkey_k(b:Nat)(x:PyP)(n:Int)(w:World)(hc:Cel w b 82 (pyC x))(hok:PyOk x):Calls prog 186 #[.pointer (some ⟨b,0,none⟩),.int .i64 n] w fun r w'=>(∃K,r=.returned K/\KeyV w' w.heap.size K)/\Bl w w':=by
 refine(pkey_any b x n w hc hok).mono ?_;rintro r w' ⟨h1,h2⟩;refine⟨?_,h2⟩;rcases h1 with rfl|⟨g,s,hg,hk,rfl⟩
 · exact⟨_,rfl,.inl rfl⟩
 exact⟨_,rfl,.inr ⟨g,s,hg,hk,rfl⟩⟩
def OpR(r:Ending):Prop:=∃(lh:List Int) (pl e:Int),lh.length=32/\r=.returned (.tuple #[.agg (ints .u8 lh).toArray,.int .i64 pl,.int .i64 e])
theorem opened_any(b:Nat)(x:PyP)(y:CmP)(A:Option Addr)(m c:Nat)(l:List Int)(AX:Option Addr)(cX:Nat)(w:World)(hc:Cel w b 82 (pyC x))(hok:PyOk x)(hy:CmOk w y)(hX:y.X=.slice AX m cX)(hp:Rg w 2 A m c (ints .i64 l))(hpr:Prs l m):Calls prog 130 #[.pointer (some ⟨b,0,none⟩),.agg (cmC y).toArray,.slice A m c] w fun r w'=>OpR r/\Bl w w':=by
 obtain⟨w1,hW⟩:=ex_ (((w.alloc (.cells (cmC y).toArray 130)).alloc (.cells (ints .u8 zl).toArray 43)).alloc (.cells (ints .u8 zl).toArray 43));have hb1:Bl w w1:=by rw[hW];exact bal (bal b0_)
 have HB1:=hd_ hb1;have HY1:Hid (Cel w1 w.heap.size 130 (cmC y)):=by rw[hW];exact((Cel.new _ rfl rfl).alloc _).alloc _
 have HZ1:Hid (Row w1 (w.heap.size+1) .u8 43 32):=by rw[hW];exact(Row.new zl _ rfl s_).alloc _
 have HH1:Hid (Row w1 (w.heap.size+2) .u8 43 32):=by rw[hW];exact Row.new zl _ rfl s_
 have hs1:w1.heap.size=w.heap.size+3:=by rw[hW];simp
 have HC1:=hd_ (hc.below hb1 hc.lt);have hbw:b<w.heap.size:=hc.lt;have HQ1:=hd_ (hp.below hb1);have HPr:=hd_ hpr;have HOk:=hd_ hok;have EX:=hd_ hX;obtain⟨-,-,-,AX',nX',cX',eX',hXX,hnX⟩:=hy;obtain⟨rfl,rfl,rfl⟩:AX'=AX/\nX'=m/\cX'=cX:=by rw[hX]at eX';injection eX' with e1 e2 e3;exact⟨e1.symm,e2.symm,e3.symm⟩
 have HX1:=hd_ (hXX.below hb1);have HW:=hd_ hW;obtain⟨mm,hmm⟩:=Int.eq_ofNat_of_zero_le hok.lf.1;have HMM:=hd_ hmm;clear hW hb1 hc hok hX hp hpr eX' hXX hmm;go_enter func130,ntmps130
 go_wp2_with fail;change Code.wp _ _ _ _ (((w.alloc (.cells (cmC y).toArray 130)).alloc (.cells (ints .u8 zl).toArray 43)).alloc (.cells (ints .u8 zl).toArray 43));rw[<-HW.out];go_loopw [16] (fun v wr=>∃i:Nat,v=.int .i64 i/\i<=nX'/\Hid (Bl w1 wr)) (fun v _=>nX'-(intOf v).toNat)
 case atStart=>exact⟨0,rfl,by omega,Below.refl _ _⟩
 case round=>
  clear HW
  obtain⟨wa,rfl⟩:=ex_ (wr)
  obtain⟨i,rfl,hi,HB⟩:=hrel
  have HYa:=hd_ (HY1.out.below HB.out HY1.out.lt)
  have HZa:=hd_ (HZ1.out.below HB.out HZ1.out.lt)
  have HHa:=hd_ (HH1.out.below HB.out HH1.out.lt)
  have hsz:=HB.out.size
  by_cases hlt:i<nX'
  · obtain⟨pa,pb,hpa,hpb,hpa0,hpa3⟩:=HPr.out i hlt;obtain⟨qb,qo,rfl,hql,hqr⟩:=HQ1.out.at_ (by have:=HQ1.out.cap;omega);have hcap:=HQ1.out.cap;have k0:wa.cell? ⟨qb,qo+i*2,none⟩=some (.int .i64 pa):=(HB.out.cell (p:=⟨qb,qo+i*2,none⟩) hql).trans (hqr (i*2) _ (ints_get hpa));have k1:wa.cell? ⟨qb,qo+i*2+1,none⟩=some (.int .i64 pb):=(HB.out.cell (p:=⟨qb,qo+i*2+1,none⟩) hql).trans (by have:=hqr (i*2+1) _ (ints_get hpb);rwa [<-Nat.add_assoc]at this);obtain⟨xb,xo,A',n',c',l',rfl,hxl,kx,hxr,hxn⟩:=rdl_at HX1.out i hlt;have hcapX:=HX1.out.cap;have HXR:=hd_ hxr;have HKX:=hd_ kx;obtain⟨W4,hW4⟩:=ex_ (wa.alloc (.cells #[.int .i64 pa,.int .i64 pb] 235));have hb4:=nb_ hW4;have HB4:=hd_ (HB.out.trans (hb4.mono hsz));(have HT4:Hid (Blk W4 wa.heap.size .i64 235 [pa,pb]):=by rw[hW4];exact blk_new wa .i64 235 [pa,pb] _ rfl);have HW4:=hd_ hW4;clear hqr hpa hpb hW4 hb4 kx hxr HYa HZa HHa HB;go_wp2_with fail;refine pr_ 0 8 (bt 8 0) fun w1d hw1d=>?_;refine mG ?_;(have hT:Hid (Blk w1d wa.heap.size .i64 235 [pa,pb]):=by rw[<-hw1d,<- HW4.out];exact HT4.out.drew);(have hB:Hid (Bl w1 w1d):=by rw[<-hw1d,<- HW4.out];exact HB4.out.drew);have hH:(fun w'=>w'.cell? ⟨wa.heap.size,0,none⟩=some (.int .i64 pa)/\w'.cell? ⟨wa.heap.size,1,none⟩=some (.int .i64 pb)/\w'.cell? ⟨b,73,none⟩=some (.int .i64 mm)/\w'.cell? ⟨w.heap.size,8,none⟩=some (.slice (some ⟨xb,xo,none⟩) nX' cX')/\w'.cell? ⟨xb,xo+i,none⟩=some (.slice A' n' c')/\Hid (Blk w' wa.heap.size .i64 235 [pa,pb])/\Hid (Bl w1 w')) w1d:=⟨hT.out.cell rfl,hT.out.cell rfl,(hB.out.cell (p:=⟨b,73,none⟩) (by show b<_;omega)).trans ((HC1.out.cell 73).trans ((py_lf HOk.out).trans (by rw[HMM.out]))),(hB.out.cell (p:=⟨w.heap.size,8,none⟩) (by show w.heap.size<_;omega)).trans ((HY1.out.cell 8).trans (by show some y.X=_;rw[EX.out])),(hB.out.cell (p:=⟨xb,xo+i,none⟩) hxl).trans HKX.out,hT,hB⟩;clear hw1d hT hB;refine wpAny_of_last (S:=fun w'=>w'.cell? ⟨wa.heap.size,0,none⟩=some (.int .i64 pa)/\w'.cell? ⟨wa.heap.size,1,none⟩=some (.int .i64 pb)/\w'.cell? ⟨b,73,none⟩=some (.int .i64 mm)/\w'.cell? ⟨w.heap.size,8,none⟩=some (.slice (some ⟨xb,xo,none⟩) nX' cX')/\w'.cell? ⟨xb,xo+i,none⟩=some (.slice A' n' c')/\Hid (Blk w' wa.heap.size .i64 235 [pa,pb])/\Hid (Bl w1 w')) (ds:=[7]) _ _ _ _ ?_;refine ts_ 0 6 2 (bt 8 63) hH ?_;refine mT7 ?_;refine one_ (i:=6) (N:=some 27) (bt 8 127) rfl rfl kk dd (fun K hK=>?_);refine goes_ func185 kk rfl #[.int .i64 pb,.int .i64 mm] rr rfl rfl mL ?_;refine(under_any pb mm _).mono ?_;rintro _ _ ⟨⟨q,rfl⟩,rfl⟩;refine⟨_,rfl,?_⟩;refine hK.out _ _ hH (fun hH=>?_);clear hK K;refine mN ?_;refine tl_ 7 ?_;refine mF ?_;obtain⟨-,-,-,-,-,HT5,HB5⟩:=hH
    cases q with
    | false=>
     go_wp2_with fail;exact⟨⟨i+1,by go_num,by omega,HB5⟩,by simp[intOf];omega⟩
    | true=>
     go_wp2_with fail
     refine pr_ 0 15 (bt 15 0) fun w1d hw1d=>?_
     refine mG ?_
     have hT:Hid (Blk w1d wa.heap.size .i64 235 [pa,pb]):=by rw[<-hw1d];exact HT5.out.drew
     have hB:Hid (Bl w1 w1d):=by rw[<-hw1d];exact HB5.out.drew
     have hH:(fun w'=>w'.cell? ⟨wa.heap.size,0,none⟩=some (.int .i64 pa)/\w'.cell? ⟨wa.heap.size,1,none⟩=some (.int .i64 pb)/\w'.cell? ⟨b,73,none⟩=some (.int .i64 mm)/\w'.cell? ⟨w.heap.size,8,none⟩=some (.slice (some ⟨xb,xo,none⟩) nX' cX')/\w'.cell? ⟨xb,xo+i,none⟩=some (.slice A' n' c')/\Hid (Blk w' wa.heap.size .i64 235 [pa,pb])/\Hid (Bl w1 w')) w1d:=⟨hT.out.cell rfl,hT.out.cell rfl,(hB.out.cell (p:=⟨b,73,none⟩) (by show b<_;omega)).trans ((HC1.out.cell 73).trans ((py_lf HOk.out).trans (by rw[HMM.out]))),(hB.out.cell (p:=⟨w.heap.size,8,none⟩) (by show w.heap.size<_;omega)).trans ((HY1.out.cell 8).trans (by show some y.X=_;rw[EX.out])),(hB.out.cell (p:=⟨xb,xo+i,none⟩) hxl).trans HKX.out,hT,hB⟩
     have hszd:wa.heap.size<w1d.heap.size:=hT.out.lt
     clear hw1d hT hB
     refine wpAny_of_last (S:=fun w'=>w'.cell? ⟨wa.heap.size,0,none⟩=some (.int .i64 pa)/\w'.cell? ⟨wa.heap.size,1,none⟩=some (.int .i64 pb)/\w'.cell? ⟨b,73,none⟩=some (.int .i64 mm)/\w'.cell? ⟨w.heap.size,8,none⟩=some (.slice (some ⟨xb,xo,none⟩) nX' cX')/\w'.cell? ⟨xb,xo+i,none⟩=some (.slice A' n' c')/\Hid (Blk w' wa.heap.size .i64 235 [pa,pb])/\Hid (Bl w1 w')) (ds:=[13,14]) _ _ _ _ ?_
     refine ts_ 0 3 12 (bt 15 7) hH ?_
     refine mT7 ?_
     refine ts_ 4 5 7 (bt 15 503) hH ?_
     refine mT7 ?_
     refine one_ (i:=3) (N:=some 33) (bt 15 511) rfl rfl kk dd (fun K hK=>?_)
     refine goes_ func186 kk rfl #[.pointer (some ⟨b,0,none⟩),.int .i64 pb] rr rfl rfl mL ?_
     obtain⟨-,-,-,-,-,HT6,HB6⟩:=hH
     refine(pkey_k b x pb _ (HC1.out.below HB6.out HC1.out.lt) HOk.out).mono ?_
     rintro _ wx ⟨⟨KV,rfl,hkv⟩,hbx⟩
     refine⟨_,rfl,?_⟩
     have HT7:=hd_ (HT6.out.below hbx HT6.out.lt)
     have HB7:=tb_ HB6 hbx
     have HKV:=hd_ hkv
     have hxs:=hbx.size
     refine hK.out _ _ ⟨HT7.out.cell rfl,HT7.out.cell rfl,(HB7.out.cell (p:=⟨b,73,none⟩) (by show b<_;omega)).trans ((HC1.out.cell 73).trans ((py_lf HOk.out).trans (by rw[HMM.out]))),(HB7.out.cell (p:=⟨w.heap.size,8,none⟩) (by show w.heap.size<_;omega)).trans ((HY1.out.cell 8).trans (by show some y.X=_;rw[EX.out])),(HB7.out.cell (p:=⟨xb,xo+i,none⟩) hxl).trans HKX.out,HT7,HB7⟩ (fun hH=>?_)
     clear hK K hbx hkv HT6 HB6 HT7 HB7
     refine mN ?_
     refine one_ (i:=9) (N:=some 39) (bt 15 1023) rfl rfl kk dd (fun K hK=>?_)
     refine goes_ func122 kk rfl #[KV,.slice A' n' c'] rr rfl rfl mL ?_
     obtain⟨-,-,-,-,-,HT6,HB6⟩:=hH
     refine(open_k KV w1d.heap.size A' n' c' l' _ HKV.out hxs (HXR.out.below HB6.out) o_).mono ?_
     rintro _ wz ⟨⟨A9,m9,c9,e9,rfl,ho9,hm9⟩,hbz⟩
     refine⟨_,rfl,?_⟩
     have HT7:=hd_ (HT6.out.below hbz hszd)
     have HB7:=hd_ (HB6.out.trans (hbz.mono (by have:=HB6.out.size;omega)))
     have HO9:=hd_ ho9
     refine hK.out _ _ ⟨HT7.out.cell rfl,HT7.out.cell rfl,(HB7.out.cell (p:=⟨b,73,none⟩) (by show b<_;omega)).trans ((HC1.out.cell 73).trans ((py_lf HOk.out).trans (by rw[HMM.out]))),(HB7.out.cell (p:=⟨w.heap.size,8,none⟩) (by show w.heap.size<_;omega)).trans ((HY1.out.cell 8).trans (by show some y.X=_;rw[EX.out])),(HB7.out.cell (p:=⟨xb,xo+i,none⟩) hxl).trans HKX.out,HT7,HB7⟩ (fun hH=>?_)
     clear hK K hbz ho9 HT6 HB6 HT7 HB7
     refine mN ?_
     refine ts_ 10 2 3 (bt 15 4095) hH ?_
     refine mT7 ?_
     refine ps_ 12 1 2 (bt 15 8191) ?_
     refine mT1 ?_
     refine tl_ 13 ?_
     refine mF ?_
     obtain⟨-,-,-,-,-,HT8,HB8⟩:=hH
     have HZz:=hd_ (HZ1.out.below HB8.out HZ1.out.lt)
     obtain⟨lz,hlz,hBz⟩:=HH1.out.below HB8.out HH1.out.lt
     have HLz:=hd_ hlz
     have HLz2:=hd_ hBz
     clear hlz hBz
     by_cases he9:e9=0
     rotate_left
     · go_wp2_with (first
        | (refine wpList_load_mid rfl 43 (.tmp 9) rr (w.heap.size+2) 0 rr (ints .u8 lz) _ HLz2.out.range underlying43 rfl (hi43 HLz.out).out ?_)
        | (refine store_blk rfl 43 (.tmp 6) (.tmp 45) rr (w.heap.size+1) .u8 lz rr rr HZz.out HLz.out (by show _=_;rw[HLz.out];exact info43) ?_;intro wy hBy hgy))
       have hload:=hBy.loads underlying43 rfl (by show _=_;rw[HLz.out];exact info43);refine bodyPost_ret (v:=.tuple #[.agg (ints .u8 lz).toArray,.int .i64 0,.int .i64 3]) (by simp[results,results130,asAddr,Act.put,hload]) rfl ⟨⟨lz,_,_,HLz.out,rfl⟩,(HB1.out.trans (HB8.out.mono HB1.out.size)).grown hgy (HB1.out.trans (HB8.out.mono HB1.out.size)).size (fun k hk=>by cases hk;omega)⟩
     subst he9
     by_cases hm32:m9=32
     rotate_left
     · go_wp2_with (first
        | (refine wpList_load_mid rfl 43 (.tmp 9) rr (w.heap.size+2) 0 rr (ints .u8 lz) _ HLz2.out.range underlying43 rfl (hi43 HLz.out).out ?_)
        | (refine store_blk rfl 43 (.tmp 6) (.tmp 50) rr (w.heap.size+1) .u8 lz rr rr HZz.out HLz.out (by show _=_;rw[HLz.out];exact info43) ?_;intro wy hBy hgy))
       have hload:=hBy.loads underlying43 rfl (by show _=_;rw[HLz.out];exact info43);refine bodyPost_ret (v:=.tuple #[.agg (ints .u8 lz).toArray,.int .i64 0,.int .i64 10]) (by simp[results,results130,asAddr,Act.put,hload]) rfl ⟨⟨lz,_,_,HLz.out,rfl⟩,(HB1.out.trans (HB8.out.mono HB1.out.size)).grown hgy (HB1.out.trans (HB8.out.mono HB1.out.size)).size (fun k hk=>by cases hk;omega)⟩
     subst hm32
     obtain⟨l9,hl9⟩:=HO9.out.rd
     have HR9:=hd_ hl9
     have hcp9:32<=c9:=hl9.cap
     clear hl9
     go_wp2_with (refine copy_row rfl (.tmp 51) (.tmp 52) rr (w.heap.size+2) 32 32 c9 43 A9 l9 rr rr HR9.out dd dd ⟨lz,HLz.out,HLz2.out⟩ ?_
                  intro wc hBc hgc
                  obtain⟨lc,hlc,hBc⟩:=hBc
                  have HLc:=hd_ hlc
                  have HBc:=hd_ hBc
                  have HZc:=hd_ (HZz.out.grown hgc s_)
                  have HTc:=hd_ (HT8.out.grown hgc s1_)
                  have HBB:Hid (Bl w wc):=(HB1.out.trans (HB8.out.mono HB1.out.size)).grown hgc (HB1.out.trans (HB8.out.mono HB1.out.size)).size (fun k hk=>by cases hk;omega)
                  clear hBc hlc hgc)
     refine pr_ 0 6 (bt 6 0) fun w1d hw1d=>?_
     refine mG ?_
     have hH:(fun w'=>w'.cell? ⟨wa.heap.size,0,none⟩=some (.int .i64 pa)/\Hid (Blk w' (w.heap.size+2) .u8 43 lc)/\Hid (Row w' (w.heap.size+1) .u8 43 32)/\Hid (Bl w w')) w1d:=by rw[<-hw1d];exact⟨HTc.out.cell rfl,HBc.out.drew,HZc.out.drew,HBB.out.drew⟩
     clear hw1d
     refine wpAny_of_last (S:=fun w'=>w'.cell? ⟨wa.heap.size,0,none⟩=some (.int .i64 pa)/\Hid (Blk w' (w.heap.size+2) .u8 43 lc)/\Hid (Row w' (w.heap.size+1) .u8 43 32)/\Hid (Bl w w')) (ds:=[4,5]) _ _ _ _ ?_
     refine ts_ 0 3 3 (bt 6 7) hH ?_
     refine mD ?_
     repeat (first|(refine tk_ 43 (.tmp 9) (w.heap.size+2) 0 (ints .u8 lc) (fun _ h=>h.2.1.out.range) underlying43 rfl (hi43 HLc.out).out ?_)|(refine uA ?_)|(refine mB4 ?_))
     refine takes_nil ?_
     refine one_ (i:=3) (N:=none) (bt 6 15) rfl rfl kk dd (fun K hK=>?_)
     obtain⟨lr,hlr,hBr⟩:=hH.2.2.1.out
     refine step_store_cel rfl 43 (.tmp 6) (.tmp 54) rr (w.heap.size+1) 0 43 [] (ints .u8 lr) [] (ints .u8 lc) rr rr (by simpa using hBr.cel) rfl (by rw[ints_len,ints_len,hlr,HLc.out]) (hi43 HLc.out).out (all_ints _ _) ?_
     intro wy hBy hgy
     refine hK.out _ _ ⟨hgy.cell hH.1 s1_,hH.2.1.out.grown hgy s_,⟨lc,HLc.out,Cel.blk (by simpa using hBy)⟩,hH.2.2.2.out.grown hgy hH.2.2.2.out.size (fun k hk=>by cases hk;omega)⟩ (fun hH=>?_)
     clear hK K hBy hgy hBr
     refine tl_ 4 ?_
     refine mF ?_
     obtain⟨kk0,HBd,HZd,HDd⟩:=hH
     obtain⟨lq,hlq,hBq⟩:=HZd.out
     have hload:=hBq.loads underlying43 rfl (by show _=_;rw[hlq];exact info43)
     have HLq:=hd_ hlq
     have HLD:=hd_ hload
     clear hlq hBq hload
     go_wp2_with fail
     have hload:=HLD.out
     refine bodyPost_ret (v:=.tuple #[.agg (ints .u8 lq).toArray,.int .i64 pa,.int .i64 0]) (by simp[results,results130,asAddr,Act.put,hload]) rfl ⟨⟨lq,_,_,HLq.out,rfl⟩,HDd.out⟩
  · obtain⟨lz,hlz,hBz⟩:=HHa.out;have HLz:=hd_ hlz;have HLz2:=hd_ hBz;clear hlz hBz
    go_wp2_with (first
     | (refine wpList_load_mid rfl 43 (.tmp 9) rr (w.heap.size+2) 0 rr (ints .u8 lz) _ HLz2.out.range underlying43 rfl (hi43 HLz.out).out ?_)
     | (refine store_blk rfl 43 (.tmp 6) (.tmp 58) rr (w.heap.size+1) .u8 lz rr rr HZa.out HLz.out (by show _=_;rw[HLz.out];exact info43) ?_;intro wy hBy hgy))
    have hload:=hBy.loads underlying43 rfl (by show _=_;rw[HLz.out];exact info43);refine bodyPost_ret (v:=.tuple #[.agg (ints .u8 lz).toArray,.int .i64 0,.int .i64 10]) (by simp[results,results130,asAddr,Act.put,hload]) rfl ⟨⟨lz,_,_,HLz.out,rfl⟩,(HB1.out.trans (HB.out.mono HB1.out.size)).grown hgy (HB1.out.trans (HB.out.mono HB1.out.size)).size (fun k hk=>by cases hk;omega)⟩
end Go.Proofs.YtppjnahcnofokaaGreat.T
namespace Go.Proofs.YtppjnahcnofokaaGreat.T
open Go.RowKit Go.Proofs.YtppjnahcnofokaaGreatW.PrintLast
open Go.Proofs.Tryz
variable{k:IntKind}{a:Act}{b i n B base m fuel D B':Nat}{l ch t0:List Int}{w w' w1 w2:World}{t:TypeId}{P:Program}{cs xs vs l3:List Value}{A A':Option Addr}{o oi:Oper}{e s f st fl:Int}{ops:Array Oper}{rest l0:List Oper}{v:Value}{r:Option Nat}{rs rs2:List (Option Addr×Nat×Nat×List Int)}{E:Prop}{ad ai go:List Bool}{N:Act->Prop}{place:Nat->Option (Nat×Nat)}{bad:Bool}{es es':List (Int×List Int)}{T:List TypeId}
section
variable {P:Program} {ops:Array Oper} {Q:Exit->Act->World->Prop} {md:Region.Mode} {S:World->Prop} {ds:List Nat}
theorem four_{j k:Nat}{Ni Nj Nk Nm:Option Tmp}{oj ok om:Oper}{l:Array Bool}(li lj lk lm:Array Bool)(hi:ops[i]? = some oi)(hj:ops[j]? = some oj)(hk:ops[k]? = some ok)(hm:ops[m]? = some om)(hNi:oi.dst=Ni)(hNj:oj.dst=Nj)(hNk:ok.dst=Nk)(hNm:om.dst=Nm)(hc:(Region.ready md ops l == [i,j,k,m]&&l.setIfInBounds i true==li&&l.setIfInBounds j true==lj&&l.setIfInBounds k true==lk&&l.setIfInBounds m true==lm)=true)(hdi:i ∉ ds)(hdj:j ∉ ds)(hdk:k ∉ ds)(hdm:m ∉ ds)(h1:∀K:Act->World->Prop,Shut (∀a' w',S w'->(S w'->wpAnyLast P md ops Q S ds fuel li a' w')->K a' w')->if Region.wanted oi (yielded ops a.tmps)=true then Oper.wp P oi a w K Q else K (a.put Ni undef) w)(h2:∀K:Act->World->Prop,Shut (∀a' w',S w'->(S w'->wpAnyLast P md ops Q S ds fuel lj a' w')->K a' w')->if Region.wanted oj (yielded ops a.tmps)=true then Oper.wp P oj a w K Q else K (a.put Nj undef) w)(h3:∀K:Act->World->Prop,Shut (∀a' w',S w'->(S w'->wpAnyLast P md ops Q S ds fuel lk a' w')->K a' w')->if Region.wanted ok (yielded ops a.tmps)=true then Oper.wp P ok a w K Q else K (a.put Nk undef) w)(h4:∀K:Act->World->Prop,Shut (∀a' w',S w'->(S w'->wpAnyLast P md ops Q S ds fuel lm a' w')->K a' w')->if Region.wanted om (yielded ops a.tmps)=true then Oper.wp P om a w K Q else K (a.put Nm undef) w): wpAnyLast P md ops Q S ds (fuel+1) l a w:=by
 subst hNi hNj hNk hNm;simp only[Bool.and_eq_true,beq_iff_eq]at hc;obtain⟨⟨⟨⟨h5,h6⟩,h7⟩,h8⟩,h9⟩:=hc;subst h6 h7 h8 h9;exact wpAnyLast_ready h5 s_ (AllReadyL.cons hi hdi (fun K hK=>h1 K hK) (AllReadyL.cons hj hdj (fun K hK=>h2 K hK) (AllReadyL.cons hk hdk (fun K hK=>h3 K hK) (AllReadyL.cons hm hdm (fun K hK=>h4 K hK) AllReadyL.nil))))
end
def BoX(w:World)(b:Nat):Prop:=∃l:List Bool,l.length=8/\Cel w b 41 (bools l)
theorem BoX.below(h:BoX w b)(hb:Bl w w'):BoX w' b:=by
 obtain⟨l,hl,h⟩:=h;exact⟨l,hl,h.below hb h.lt⟩
theorem BoX.grown{row:Option Nat}(h:BoX w b)(hg:w.grownBy w' row)(hne:some b≠row):BoX w' b:=by
 obtain⟨l,hl,h⟩:=h;exact⟨l,hl,h.grown hg hne⟩
theorem BoX.ne{c:Nat}(h:BoX w b)(hc:Cel w c 45 vs):c≠b:=by
 rintro rfl;obtain⟨l,hl,h⟩:=h;rw[Cel,hc]at h;injection h with h
 injection h with _ h _
 exact absurd h dd
theorem BoX.put{c:Nat}(h:BoX w b)(hg:w.grownBy w' (some c))(hn:BoX w' c):BoX w' b:=by
 by_cases e:b=c
 · subst e;exact hn
 exact h.grown hg (by simpa using e)
end Go.Proofs.YtppjnahcnofokaaGreat.T
namespace Go.Proofs.YtppjnahcnofokaaGreat.T
open Go Go.RowKit Go.Lib Go.Proofs
open Go.Proofs.Tryz
variable{k:IntKind}{a:Act}{b i n B base m fuel D B':Nat}{l ch t0:List Int}{w w' w1 w2:World}{t:TypeId}{P:Program}{cs xs vs l3:List Value}{A A':Option Addr}{o oi:Oper}{e s f st fl:Int}{ops:Array Oper}{rest l0:List Oper}{v:Value}{r:Option Nat}{rs rs2:List (Option Addr×Nat×Nat×List Int)}{E:Prop}{ad ai go:List Bool}{N:Act->Prop}{place:Nat->Option (Nat×Nat)}{bad:Bool}{es es':List (Int×List Int)}{T:List TypeId}
/-! Whether two arrays or structs of whole numbers and truths are alike: each is told, and one is like itself. -/
def okk(k:Option IntKind)(v:Option Value):Prop:=match k with|some k=>∃z,v=some (.int k z)|none=>∃b,v=some (.bool b)
def FitsAt(xs:Array Value)(o:Nat)(K:List (Option IntKind)):Prop:=∀(i:Nat) (k:Option IntKind),K[i]? = some k->okk k xs[o+i]?
def PartT(P:Program)(d:Nat)(t:TypeId)(K:List (Option IntKind)):Prop:=∀(w:World) (xs ys:Array Value) (o:Nat),FitsAt xs o K->FitsAt ys o K ->
 ∃a b r,(part t xs o).run P w=.ok a w/\(part t ys o).run P w=.ok b w/\(Op.equalIn d t a b).run P w=.ok r w/\(xs=ys->r=true)
def SameT(P:Program)(d:Nat)(t:TypeId)(K:List (Option IntKind)):Prop:=∀(w:World) (xs ys:Array Value),FitsAt xs 0 K->FitsAt ys 0 K ->
 ∃r,(Op.equalIn d t (.agg xs) (.agg ys)).run P w=.ok r w/\(xs=ys->r=true)
section
variable {P:Program}
theorem part_int{d:Nat}(hu:P.underlying t=some (.int k)):PartT P (d+1) t [some k]:=by
 intro w xs ys o hx hy;obtain⟨z,hz⟩:=hx 0 (some k) rfl;obtain⟨y,hy⟩:=hy 0 (some k) rfl;refine⟨.int k z,.int k y,z==y,?_,?_,run_equalIn_int w d t k k z y hu,?_⟩
 · simp only[Nat.add_zero]at hz;simp[part,isAgg,run_underlying hu,hz]
 · simp only[Nat.add_zero]at hy;simp[part,isAgg,run_underlying hu,hy]
 intro e;subst e;rw[hz]at hy;cases hy
 simp
theorem same_array{d:Nat}{e:TypeId}{i:TypeInfo}{K Ke:List (Option IntKind)}(hu:P.underlying t=some (.array n e))(hi:P.info? e=some i)(h:PartT P d e Ke)(hK:∀m<n,∀j k,Ke[j]? = some k->K[m*P.cellsOf e+j]? = some k):SameT P (d+1) t K:=by
 intro w xs ys hx hy;rw[run_equalIn_array w d xs ys hu hi];have key:∀is:List Nat,(∀m ∈ is,m<n)->∃r,(Op.eqItems d e (P.cellsOf e) xs ys is).run P w=.ok r w/\(xs=ys->r=true):=by
  intro is
  induction is with
  | nil=>intro _;exact⟨true,by simp[Op.eqItems],fun _=>rfl⟩
  | cons m is ih=>
   intro hm;obtain⟨r',h1',h2'⟩:=ih (fun j hj=>hm j (by simp[hj]));(have fx:FitsAt xs (m*P.cellsOf e) Ke:=fun j k hk=>by have:=hx _ k (hK m (hm m s_) j k hk);simpa using this);(have fy:FitsAt ys (m*P.cellsOf e) Ke:=fun j k hk=>by have:=hy _ k (hK m (hm m s_) j k hk);simpa using this);obtain⟨a,b,r,p1,p2,p3,p4⟩:=h w xs ys _ fx fy;(cases r);(· exact⟨false,by simp[Op.eqItems,p1,p2,p3],fun e=>by simpa using p4 e⟩);exact⟨r',by simpa[Op.eqItems,p1,p2,p3] using h1',h2'⟩
 exact key _ (fun m hm=>by simpa using hm)
end
/-! Of this program: hashes and views. -/
def k43:List (Option IntKind):=List.replicate 32 (some .u8)
def k40:List (Option IntKind):=List.replicate 31 (some .i64)
theorem rep_get{k:Option IntKind}{c:Nat}(h:m+c<=n):∀j k',(List.replicate c k)[j]? = some k'->(List.replicate n k)[m+j]? = some k':=by
 intro j k' hk;have hj:j<c:=by have:=(List.getElem?_eq_some_iff.1 hk).1;simpa using this
 simp only[List.getElem?_replicate,if_pos hj]at hk;simpa[List.getElem?_replicate,show m+j<n by omega] using hk
theorem cells5:prog.cellsOf 5=1:=by kernel_rfl
theorem inf_of(h:(prog.info? t).isSome=true):∃i,prog.info? t=some i:=Option.isSome_iff_exists.1 h
theorem same43(d:Nat):SameT prog (d+2) 43 k43:=by
 obtain⟨i,hi⟩:=inf_of (t:=5) kk;exact same_array (n:=32) (e:=5) kk hi (part_int (k:=.u8) kk) (fun m hm=>by rw[cells5];exact rep_get (c:=1) o_)
theorem fits_ints(h:l.length=n):FitsAt (ints k l).toArray 0 (List.replicate n (some k)):=by
 intro i k' hk;have hi:i<n:=by have:=(List.getElem?_eq_some_iff.1 hk).1;simpa using this
 simp only[List.getElem?_replicate,if_pos hi,Option.some.injEq]at hk;subst hk;exact⟨l[i]'o_,by simp[ints,show i<l.length by omega]⟩
theorem neq43{m:List Int}(hl:l.length=32)(hm:m.length=32)(w:World):∃q,(binOp .neq 43 (.agg (ints .u8 l).toArray) (.agg (ints .u8 m).toArray)).run prog w=.ok (.bool q) w/\(l=m->q=false):=by
 obtain⟨r,h1,h2⟩:=same43 9998 w _ _ (fits_ints (k:=.u8) hl) (fits_ints (k:=.u8) hm);refine⟨!r,?_,fun e=>by rw[h2 (by rw[e])];rfl⟩;rw[run_neq_struct,h1];rfl
theorem wpList_cmp{Q:Exit->Act->World->Prop}(hgd:o.guard=none)(op:BinOp)(t u:TypeId)(x y:Operand)(ho:o.op=.binOp op t x y u)(xs ys:Array Value)(v:Value)(hx:a.eval x=.agg xs)(hy:a.eval y=.agg ys)(hm:prog.eqGuardType prog.depth t=false)(hrun:(binOp op t (.agg xs) (.agg ys)).run prog w=.ok v w)(h:wpList prog ops Q rest (a.put o.dst v) w):wpList prog ops Q (o :: rest) a w:=by
 refine wpList_plain hgd fun K hK=>?_;unfold Oper.wp execOp;simp only[ho,hx,hy,Sem.run_bind,run_eqGuard_agg w op t x y xs ys hm,hrun,Result.andThen_ok];exact hK _ _ h
theorem gd43:prog.eqGuardType prog.depth 43=false:=by kernel_rfl
end Go.Proofs.YtppjnahcnofokaaGreat.T
namespace Go.Proofs.YtppjnahcnofokaaGreat.T
open Go.RowKit Go.Proofs.YtppjnahcnofokaaGreatW.PrintLast
open Go.Proofs.Tryz
variable{k:IntKind}{a:Act}{b i n B base m fuel D B':Nat}{l ch t0:List Int}{w w' w1 w2:World}{t:TypeId}{P:Program}{cs xs vs l3:List Value}{A A':Option Addr}{o oi:Oper}{e s f st fl:Int}{ops:Array Oper}{rest l0:List Oper}{v:Value}{r:Option Nat}{rs rs2:List (Option Addr×Nat×Nat×List Int)}{E:Prop}{ad ai go:List Bool}{N:Act->Prop}{place:Nat->Option (Nat×Nat)}{bad:Bool}{es es':List (Int×List Int)}{T:List TypeId}
theorem cm_trange{x:CmP}(h:Cel w b 130 (cmC x)):w.rangeAt b 9 (ints .u8 x.tag):=by
 have:=Cel.range (w:=w) (b:=b) (t:=130) (by have:=h;rwa [cm_tsplit]at this);exact this
end Go.Proofs.YtppjnahcnofokaaGreat.T
namespace Go.Proofs.YtppjnahcnofokaaGreat.T
open Go.RowKit Go.Proofs.YtppjnahcnofokaaGreatW.PrintLast
open Go.Proofs.Tryz
variable{k:IntKind}{a:Act}{b i n B base m fuel D B':Nat}{l ch t0:List Int}{w w' w1 w2:World}{t:TypeId}{P:Program}{cs xs vs l3:List Value}{A A':Option Addr}{o oi:Oper}{e s f st fl:Int}{ops:Array Oper}{rest l0:List Oper}{v:Value}{r:Option Nat}{rs rs2:List (Option Addr×Nat×Nat×List Int)}{E:Prop}{ad ai go:List Bool}{N:Act->Prop}{place:Nat->Option (Nat×Nat)}{bad:Bool}{es es':List (Int×List Int)}{T:List TypeId}
def BsR(w:World)(r:Ending)(w':World):Prop:=∃A n c e,r=.returned (.tuple #[.slice A n c,.int .i64 e])/\(∃B rs,w.heap.size<=B/\BxS w' B (.slice A n c) n rs)/\n<=24
theorem boxes_any(b:Nat)(x:PyP)(e k:Int)(t ch:List Int)(ad bu:List Bool)(p:List Int)(w:World)(hc:Cel w b 82 (pyC x))(hok:PyOk x)(hv:VwOk t ad ch)(hbu:bu.length=8)(hp:p.length=32):Calls prog 103 #[.pointer (some ⟨b,0,none⟩),.agg (vw e t ad k ch).toArray,.agg (bools bu).toArray,.agg (ints .u8 p).toArray] w fun r w'=>BsR w r w'/\Bl w w':=by
 obtain⟨w1,hW⟩:=ex_ ((((w.alloc (.cells (vw e t ad k ch).toArray 45)).alloc (.cells (bools bu).toArray 41)).alloc (.cells (ints .u8 p).toArray 43)));have hb1:Bl w w1:=by rw[hW];exact bal (bal b0_)
 have HB1:=hd_ hb1;have HV1:Hid (Cel w1 w.heap.size 45 (vw e t ad k ch)):=by rw[hW];exact((Cel.new _ rfl rfl).alloc _).alloc _
 have HU1:Hid (Cel w1 (w.heap.size+1) 41 (bools bu)):=by rw[hW];exact(Cel.new _ s_ rfl).alloc _
 have HP1:Hid (Blk w1 (w.heap.size+2) .u8 43 p):=by rw[hW];exact blk_new _ .u8 43 p _ s_
 have HC0:=hd_ hc;have HOk:=hd_ hok;have HV:=hd_ hv;have HU:=hd_ hbu;have HPp:=hd_ hp;have hbw:b<w.heap.size:=hc.lt;obtain⟨mm,hmm⟩:=Int.eq_ofNat_of_zero_le hok.lf.1;have HMM:=hd_ hmm;have HW:=hd_ hW;clear hW hb1 hc hok hv hbu hp hmm;go_enter func103,ntmps103
 go_wp2_with fail;refine pr_ 0 10 (bt 10 0) fun w1d hw1d=>?_;refine mG ?_;have hV:Hid (Cel w1d w.heap.size 45 (vw e t ad k ch)):=by rw[<-hw1d,<- HW.out];exact HV1.out.drew
 have hU:Hid (Cel w1d (w.heap.size+1) 41 (bools bu)):=by rw[<-hw1d,<- HW.out];exact HU1.out.drew
 have hP:Hid (Blk w1d (w.heap.size+2) .u8 43 p):=by rw[<-hw1d,<- HW.out];exact HP1.out.drew
 have hB:Hid (Bl w w1d):=by rw[<-hw1d,<- HW.out];exact HB1.out.drew
 have hH:(fun w'=>w'.cell? ⟨b,73,none⟩=some (.int .i64 mm)/\Hid (Cel w' w.heap.size 45 (vw e t ad k ch))/\Hid (Cel w' (w.heap.size+1) 41 (bools bu))) w1d:=⟨((HC0.out.below hB.out hbw).cell 73).trans ((py_lf HOk.out).trans (by rw[HMM.out])),hV,hU⟩;clear hw1d;refine wpAny_of_last (S:=fun w'=>w'.cell? ⟨b,73,none⟩=some (.int .i64 mm)/\Hid (Cel w' w.heap.size 45 (vw e t ad k ch))/\Hid (Cel w' (w.heap.size+1) 41 (bools bu))) (ds:=[]) _ _ _ _ ?_;refine ts_ 0 7 3 (bt 10 127) hH ?_;refine mD ?_;repeat (first|(refine tk_ 40 (.tmp 15) w.heap.size 1 (ints .i64 t) (fun _ h=>vw_trange HV.out h.2.1.out) underlying40 rfl (hi40 HV.out.tree).out ?_)|(refine tk_ 41 (.tmp 6) (w.heap.size+1) 0 (bools bu) (fun _ h=>h.2.2.out.all) underlying41 rfl (hi41 HU.out) ?_)|(refine uA ?_)|(refine mB3 ?_))
 refine takes_nil ?_;refine ts_ 9 1 2 (bt 10 639) hH ?_;refine mD ?_;repeat (first|(refine tk_ 40 (.tmp 15) w.heap.size 1 (ints .i64 t) (fun _ h=>vw_trange HV.out h.2.1.out) underlying40 rfl (hi40 HV.out.tree).out ?_)|(refine tk_ 41 (.tmp 6) (w.heap.size+1) 0 (bools bu) (fun _ h=>h.2.2.out.all) underlying41 rfl (hi41 HU.out) ?_)|(refine uA ?_)|(refine mB3 ?_))
 refine takes_nil ?_;refine one_ (i:=7) (N:=some 22) (bt 10 767) rfl rfl kk dd (fun K hK=>?_);refine goes_ func129 kk rfl #[.agg (ints .i64 t).toArray,.int .i64 mm,.agg (bools bu).toArray] rr rfl rfl mL ?_;refine(plan_any t mm bu _ HV.out.tree HU.out).mono ?_;rintro _ w2 ⟨⟨A,m,c,l,rfl,hm24,hrg,hprs⟩,hb⟩;refine⟨_,rfl,?_⟩;have HRg:=hd_ hrg;have HPrs:=hd_ hprs;have HV2:=hd_ (hV.out.below hb hV.out.lt);have HU2:=hd_ (hU.out.below hb hU.out.lt);have HP2:=hd_ (hP.out.below hb hP.out.lt);have HB2:=tb_ hB hb;refine hK.out _ _ ⟨((HC0.out.below HB2.out hbw).cell 73).trans ((py_lf HOk.out).trans (by rw[HMM.out])),HV2,HU2⟩ (fun hH=>?_);clear hK K hb hrg hprs hV hU hP hB;refine mN ?_;refine ts_ 8 1 0 (bt 10 1023) hH ?_;refine mD ?_;repeat (first|(refine tk_ 40 (.tmp 15) w.heap.size 1 (ints .i64 t) (fun _ h=>vw_trange HV.out h.2.1.out) underlying40 rfl (hi40 HV.out.tree).out ?_)|(refine tk_ 41 (.tmp 6) (w.heap.size+1) 0 (bools bu) (fun _ h=>h.2.2.out.all) underlying41 rfl (hi41 HU.out) ?_)|(refine uA ?_)|(refine mB3 ?_))
 refine takes_nil ?_;refine done_ kk ?_;clear hH;have hs2:w.heap.size+2<w2.heap.size:=HP2.out.lt;go_wp2_with fail;go_loopw [10,24] (fun vx v wr=>∃(i:Nat) (A3:Option Addr) (c3:Nat),v=.int .i64 i/\vx=.slice A3 i c3/\i<=m/\Hid (∃rs,BxS wr w2.heap.size (.slice A3 i c3) i rs)/\Hid (Bl w2 wr)) (fun _ v _=>m-(intOf v).toNat)
 case atStart=>exact⟨0,none,0,rfl,rfl,Nat.zero_le _,⟨[],⟨RowsO.nil _ _,fun r h=>(by cases h),fun r h=>(by cases h)⟩⟩,Below.refl _ _⟩
 case round=>
  clear HV1 HU1 HP1 HB1
  obtain⟨wa,rfl⟩:=ex_ (wr)
  obtain⟨i,A3,c3,rfl,rfl,hi,HX,HB⟩:=hrel
  have hsz:=HB.out.size
  by_cases hlt:i<m
  · obtain⟨pa,pb,hpa,hpb,hpa0,hpa3⟩:=HPrs.out i hlt;obtain⟨pn,rfl⟩:=Int.eq_ofNat_of_zero_le hpa0;(have hpn3:pn<3:=by omega);(have hpni:(pn:Int)<3:=by omega);obtain⟨qb,qo,rfl,hql,hqr⟩:=HRg.out.at_ (by have:=HRg.out.cap;omega);have hcap:=HRg.out.cap;have k0:wa.cell? ⟨qb,qo+i*2,none⟩=some (.int .i64 pn):=(HB.out.cell (p:=⟨qb,qo+i*2,none⟩) hql).trans (hqr (i*2) _ (ints_get hpa));have k1:wa.cell? ⟨qb,qo+i*2+1,none⟩=some (.int .i64 pb):=(HB.out.cell (p:=⟨qb,qo+i*2+1,none⟩) hql).trans (by have:=hqr (i*2+1) _ (ints_get hpb);rwa [<-Nat.add_assoc]at this);obtain⟨W4,hW4⟩:=ex_ (wa.alloc (.cells #[.int .i64 pn,.int .i64 pb] 235));have hb4:=nb_ hW4;have HB4:=hd_ (HB.out.trans (hb4.mono hsz));(have HT4:Hid (Blk W4 wa.heap.size .i64 235 [(pn:Int),pb]):=by rw[hW4];exact blk_new wa .i64 235 [(pn:Int),pb] _ rfl);obtain⟨rs,hX⟩:=HX.out;have HX4:=hd_ (hX.below hb4);have HV4:=hd_ (HV2.out.below HB4.out HV2.out.lt);have HP4:=hd_ (HP2.out.below HB4.out HP2.out.lt);have HFar:Hid (∀k,(Value.slice A3 i c3).ownBlock=some k->k<wa.heap.size):=fun k hk=>(hX.rows.own.lt k hk).2;have HW4:=hd_ hW4;clear hqr hpa hpb hW4 hb4 HX hX hpa0 hpa3;go_wp2_with fail;refine pr_ 0 23 (bt 23 0) fun w1d hw1d=>?_;refine mG ?_;(have hT:Hid (Blk w1d wa.heap.size .i64 235 [(pn:Int),pb]):=by rw[<-hw1d,<- HW4.out];exact HT4.out.drew);(have hV:Hid (Cel w1d w.heap.size 45 (vw e t ad k ch)):=by rw[<-hw1d,<- HW4.out];exact HV4.out.drew);(have hP:Hid (Blk w1d (w.heap.size+2) .u8 43 p):=by rw[<-hw1d,<- HW4.out];exact HP4.out.drew);(have hB:Hid (Bl w2 w1d):=by rw[<-hw1d,<- HW4.out];exact HB4.out.drew);(have hX:Hid (BxS w1d w2.heap.size (.slice A3 i c3) i rs):=by rw[<-hw1d,<- HW4.out];exact HX4.out.below (Below.refl _ _).drew);have hF:wa.heap.size<w1d.heap.size:=hT.out.lt;have hH:(fun w'=>w'.cell? ⟨wa.heap.size,0,none⟩=some (.int .i64 pn)/\w'.cell? ⟨wa.heap.size,1,none⟩=some (.int .i64 pb)/\Hid (Cel w' w.heap.size 45 (vw e t ad k ch))/\Hid (Blk w' (w.heap.size+2) .u8 43 p)) w1d:=⟨hT.out.cell rfl,hT.out.cell rfl,hV,hP⟩;clear hw1d HT4 HV4 HP4 HB4 HX4 HW4;refine wpAny_of_last (S:=fun w'=>w'.cell? ⟨wa.heap.size,0,none⟩=some (.int .i64 pn)/\w'.cell? ⟨wa.heap.size,1,none⟩=some (.int .i64 pb)/\Hid (Cel w' w.heap.size 45 (vw e t ad k ch))/\Hid (Blk w' (w.heap.size+2) .u8 43 p)) (ds:=[21,22]) _ _ _ _ ?_;refine ts_ 0 4 19 (bt 23 15) hH ?_;refine mD ?_;(repeat (first|(refine tk_ 40 (.tmp 30) w.heap.size 1 (ints .i64 t) (fun _ h=>vw_trange HV.out h.2.2.1.out) underlying40 rfl (hi40 HV.out.tree).out ?_)|(refine tk_ 43 (.tmp 7) (w.heap.size+2) 0 (ints .u8 p) (fun _ h=>h.2.2.2.out.range) underlying43 rfl (hi43 HPp.out).out ?_)|(refine uA ?_)|(refine mB4 ?_)));refine takes_nil ?_;refine ts_ 5 2 17 (bt 23 111) hH ?_;refine mD ?_;(repeat (first|(refine tk_ 40 (.tmp 30) w.heap.size 1 (ints .i64 t) (fun _ h=>vw_trange HV.out h.2.2.1.out) underlying40 rfl (hi40 HV.out.tree).out ?_)|(refine tk_ 43 (.tmp 7) (w.heap.size+2) 0 (ints .u8 p) (fun _ h=>h.2.2.2.out.range) underlying43 rfl (hi43 HPp.out).out ?_)|(refine uA ?_)|(refine mB4 ?_)));refine takes_nil ?_;refine ts_ 10 7 10 (bt 23 130159) hH ?_;refine mD ?_;(repeat (first|(refine tk_ 40 (.tmp 30) w.heap.size 1 (ints .i64 t) (fun _ h=>vw_trange HV.out h.2.2.1.out) underlying40 rfl (hi40 HV.out.tree).out ?_)|(refine tk_ 43 (.tmp 7) (w.heap.size+2) 0 (ints .u8 p) (fun _ h=>h.2.2.2.out.range) underlying43 rfl (hi43 HPp.out).out ?_)|(refine uA ?_)|(refine mB4 ?_)));refine takes_nil ?_;refine one_ (i:=4) (N:=some 34) (bt 23 130175) rfl rfl kk dd (fun K hK=>?_);refine goes_ func162 kk rfl #[.agg (ints .i64 t).toArray,.int .i64 pb] rr rfl rfl mL ?_;refine(key_any t pb _ HV.out.tree).mono ?_;rintro _ wx ⟨⟨kx,rfl⟩,hb⟩;refine⟨_,rfl,?_⟩;have mT:=hd_ (hT.out.below hb hT.out.lt);have mV:=hd_ (hV.out.below hb hV.out.lt);have mP:=hd_ (hP.out.below hb hP.out.lt);have mB:=tb_ hB hb;have mX:=hd_ (hX.out.below hb);replace hF:=Nat.lt_of_lt_of_le hF hb.size;clear hT hV hP hB hX;obtain⟨hT,hV,hP,hB,hX⟩:=And.intro mT (And.intro mV (And.intro mP (And.intro mB mX)));clear mT mV mP mB mX;refine hK.out _ _ ⟨hT.out.cell rfl,hT.out.cell rfl,hV,hP⟩ (fun hH=>?_);clear hK K hb;refine mN ?_;refine one_ (i:=7) (N:=some 37) (bt 23 130303) rfl rfl kk dd (fun K hK=>?_);refine goes_ func38 kk rfl #[.int .i64 i] rr rfl rfl mL ?_;refine(num_any i _).mono ?_;rintro _ wy ⟨⟨A5,c5,l5,rfl,ho5,hl5⟩,hb⟩;refine⟨_,rfl,?_⟩;have H5:Hid (Rd wy .u8 A5 8 c5 l5):=rd_own ho5 hl5;have mT:=hd_ (hT.out.below hb hT.out.lt);have mV:=hd_ (hV.out.below hb hV.out.lt);have mP:=hd_ (hP.out.below hb hP.out.lt);have mB:=tb_ hB hb;have mX:=hd_ (hX.out.below hb);replace hF:=Nat.lt_of_lt_of_le hF hb.size;clear hT hV hP hB hX;obtain⟨hT,hV,hP,hB,hX⟩:=And.intro mT (And.intro mV (And.intro mP (And.intro mB mX)));clear mT mV mP mB mX;refine hK.out _ _ ⟨hT.out.cell rfl,hT.out.cell rfl,hV,hP⟩ (fun hH=>?_);clear hK K hb ho5 hl5;refine mN ?_;refine one_ (i:=8) (N:=some 38) (bt 23 130559) rfl rfl kk dd (fun K hK=>?_);obtain⟨wn,hwn⟩:=ex_ (wy.alloc (.cells #[.slice A5 8 c5] 31));refine value_ rr rfl (v:=.slice (some ⟨wy.heap.size,0,none⟩) 1 1) (w1:=wn) (by rw[hwn];go_simp) ?_;have hb:=nb_ hwn;(have H6:Hid (RdR wn (some ⟨wy.heap.size,0,none⟩) 1 1 60000 [(A5,8,c5,l5)]):=by rw[hwn];exact rdr_new wy [(A5,8,c5,l5)] _ 1 rfl rfl (fun r hr=>by simp at hr;subst hr;exact⟨H5.out,by show 8<=_;omega⟩));have mT:=hd_ (hT.out.below hb hT.out.lt);have mV:=hd_ (hV.out.below hb hV.out.lt);have mP:=hd_ (hP.out.below hb hP.out.lt);have mB:=tb_ hB hb;have mX:=hd_ (hX.out.below hb);replace hF:=Nat.lt_of_lt_of_le hF hb.size;clear hT hV hP hB hX;obtain⟨hT,hV,hP,hB,hX⟩:=And.intro mT (And.intro mV (And.intro mP (And.intro mB mX)));clear mT mV mP mB mX;refine hK.out _ _ ⟨hT.out.cell rfl,hT.out.cell rfl,hV,hP⟩ (fun hH=>?_);clear hK K hb hwn;refine mN ?_;refine one_ (i:=9) (N:=some 39) (bt 23 131071) rfl rfl kk dd (fun K hK=>?_);refine goes_ func37 kk rfl #[.agg (ints .u8 p).toArray,.string ⟨#[98,111,120]⟩,.slice (some ⟨wy.heap.size,0,none⟩) 1 1] rr rfl rfl mL ?_;refine(derive_any p _ _ 1 1 _ _ HPp.out dd H6.out o_).mono ?_;rintro _ wz ⟨⟨ld,hld,rfl⟩,hb⟩;refine⟨_,rfl,?_⟩;have HLd:=hd_ hld;have mT:=hd_ (hT.out.below hb hT.out.lt);have mV:=hd_ (hV.out.below hb hV.out.lt);have mP:=hd_ (hP.out.below hb hP.out.lt);have mB:=tb_ hB hb;have mX:=hd_ (hX.out.below hb);replace hF:=Nat.lt_of_lt_of_le hF hb.size;clear hT hV hP hB hX;obtain⟨hT,hV,hP,hB,hX⟩:=And.intro mT (And.intro mV (And.intro mP (And.intro mB mX)));clear mT mV mP mB mX;refine hK.out _ _ ⟨hT.out.cell rfl,hT.out.cell rfl,hV,hP⟩ (fun hH=>?_);clear hK K hb hld H5 H6;refine mN ?_;refine one_ (i:=17) (N:=some 47) (bt 23 262143) rfl rfl kk dd (fun K hK=>?_);refine goes_ func161 kk rfl #[.int .i64 kx,.agg (ints .u8 ld).toArray,.slice (some ⟨b,110+pn*32,none⟩) 32 32] rr rfl rfl mL ?_;have hC:=(HC0.out.below HB2.out hbw).below hB.out o_;have hRd:Rd wz .u8 (some ⟨b,110+pn*32,none⟩) 32 32 ((x.nd.drop (pn*32)).take 32):=⟨py_nl HOk.out pn hpn3,Nat.le_refl _,fun _=>⟨_,_,rfl,hC.lt,py_nr HOk.out hC pn hpn3⟩⟩;refine(seal_any kx ld _ 32 32 _ _ HLd.out hRd o_).mono ?_;rintro _ wv ⟨⟨A9,m9,c9,e9,rfl,ho9,hm9⟩,hb⟩;refine⟨_,rfl,?_⟩;have HO9:=hd_ ho9;have hFz:=hF;have mT:=hd_ (hT.out.below hb hT.out.lt);have mV:=hd_ (hV.out.below hb hV.out.lt);have mP:=hd_ (hP.out.below hb hP.out.lt);have mB:=tb_ hB hb;have mX:=hd_ (hX.out.below hb);replace hF:=Nat.lt_of_lt_of_le hF hb.size;clear hT hV hP hB hX;obtain⟨hT,hV,hP,hB,hX⟩:=And.intro mT (And.intro mV (And.intro mP (And.intro mB mX)));clear mT mV mP mB mX;refine hK.out _ _ ⟨hT.out.cell rfl,hT.out.cell rfl,hV,hP⟩ (fun hH=>?_);clear hK K hb ho9 hC hRd;refine mN ?_;refine ts_ 18 2 3 (bt 23 1048575) hH ?_;refine mD ?_;(repeat (first|(refine tk_ 40 (.tmp 30) w.heap.size 1 (ints .i64 t) (fun _ h=>vw_trange HV.out h.2.2.1.out) underlying40 rfl (hi40 HV.out.tree).out ?_)|(refine tk_ 43 (.tmp 7) (w.heap.size+2) 0 (ints .u8 p) (fun _ h=>h.2.2.2.out.range) underlying43 rfl (hi43 HPp.out).out ?_)|(refine uA ?_)|(refine mB4 ?_)));refine takes_nil ?_;refine ps_ 20 1 2 (bt 23 2097151) ?_;refine mT1 ?_;refine tl_ 21 ?_;refine mF ?_;clear hH;have hBw:Bl w wv:=HB2.out.trans (hB.out.mono HB2.out.size);have HBw:=hd_ hBw;clear hBw;by_cases he9:e9=0;rotate_left;(· go_wp2_with fail;refine bodyPost_ret (v:=.tuple #[.slice none 0 0,.int .i64 e9]) (by simp[results,results103,asAddr,Act.put]) rfl ⟨⟨none,0,0,e9,rfl,⟨w.heap.size,[],Nat.le_refl _,⟨RowsO.nil _ _,fun r h=>(by cases h),fun r h=>(by cases h)⟩⟩,by omega⟩,HBw.out⟩);subst he9;obtain⟨l9,hl9⟩:=HO9.out.rd;obtain⟨wn,hwn⟩:=ex_ (wv.alloc (.cells #[.slice A9 m9 c9] 31));have hbn:=nb_ hwn;(have HN:Hid (RdR wn (some ⟨wv.heap.size,0,none⟩) 1 1 60000 [(A9,m9,c9,l9)]):=by rw[hwn];exact rdr_new wv [(A9,m9,c9,l9)] _ 1 rfl rfl (fun r hr=>by simp at hr;subst hr;exact⟨hl9,by show m9<=_;omega⟩));have HXn:=hd_ (hX.out.below hbn);have HBn:=tb_ hB hbn;(have HBB:Hid (∀k,(Value.slice A9 m9 c9).ownBlock=some k->wa.heap.size<=k/\k<wn.heap.size):=by obtain⟨l0,_,ho⟩:=HO9.out;exact fun k hk=>⟨Nat.le_trans (Nat.le_of_lt hFz) (ho.lt k hk).1,Nat.lt_of_lt_of_le (ho.lt k hk).2 hbn.size⟩);have hbase:=HBn.out.size;have HWn:=hd_ hwn;(have hm24':i+1<=100:=by omega);clear hwn hbn hl9 hX hB hT hV hP
    go_wp2_with (first
     | (at_builtin
        change wpList _ _ _ _ _ (wv.alloc (.cells #[.slice A9 m9 c9] 31))
        rw[<-HWn.out]
        refine append_rg rfl (.tmp 53) (.tmp 55) 67 rfl w2.heap.size 31 1 24 et67 (.slice A3 i c3) i (rs.map sv) rfl HXn.out.rows.own (some ⟨wv.heap.size,0,none⟩) 1 1 ([(A9,m9,c9,l9)].map sv) rfl HN.out.rg sv_one o_ (by unfold maxLen;omega) hbase ?_
        intro A7 c7 w7 hown7 hgrow hb7 hat
        have HB7:=hd_ (HBn.out.trans hb7)
        have HX7:Hid (BxS w7 w2.heap.size (.slice A7 (i+1) c7) (i+1) (rs ++ [(A9,m9,c9,l9)])):=⟨HXn.out.rows.app HN.out hown7 hgrow hat (fun r hr k hk=>by simp at hr;subst hr;exact⟨(HBB.out k hk).2,fun e=>by have:=HFar.out k e;have:=(HBB.out k hk).1;omega⟩),(fun r hr=>by rcases List.mem_append.1 hr with h'|h';(· exact HXn.out.small r h');(· simp at h';subst h';show m9<=300;omega)),(fun r hr k hk=>by rcases List.mem_append.1 hr with h'|h';(· exact HXn.out.lo r h' k hk);(· simp at h';subst h';have:=(HBB.out k hk).1;omega))⟩
        clear hown7 hgrow hb7 hat))
    go_roundw;(case rel=>exact⟨i+1,A7,c7,by go_num,rfl,by omega,⟨_,HX7.out⟩,HB7⟩);case measure=>simp[intOf];omega
  · (obtain rfl:i=m:=by omega);obtain⟨rs,hx⟩:=HX.out;have HR:=hd_ hx;clear hx HX;go_wp2_with fail;refine bodyPost_ret (v:=.tuple #[.slice A3 i c3,.int .i64 0]) (by simp[results,results103,asAddr,Act.put]) rfl ⟨⟨A3,i,c3,0,rfl,⟨w2.heap.size,rs,HB2.out.size,HR.out⟩,hm24⟩,HB2.out.trans (HB.out.mono HB2.out.size)⟩
end Go.Proofs.YtppjnahcnofokaaGreat.T
namespace Go.Proofs.YtppjnahcnofokaaGreat.T
open Go.RowKit Go.Proofs.YtppjnahcnofokaaGreatW.PrintLast
open Go.Proofs.Tryz
variable{k:IntKind}{a:Act}{b i n B base m fuel D B':Nat}{l ch t0:List Int}{w w' w1 w2:World}{t:TypeId}{P:Program}{cs xs vs l3:List Value}{A A':Option Addr}{o oi:Oper}{e s f st fl:Int}{ops:Array Oper}{rest l0:List Oper}{v:Value}{r:Option Nat}{rs rs2:List (Option Addr×Nat×Nat×List Int)}{E:Prop}{ad ai go:List Bool}{N:Act->Prop}{place:Nat->Option (Nat×Nat)}{bad:Bool}{es es':List (Int×List Int)}{T:List TypeId}
theorem step_append_full{K:Act->World->Prop}{Q:Exit->Act->World->Prop}(hgd:o.guard=none)(s x:Operand)(ho:o.op=.call {callee:=.builtin .append,args:=#[s,x],argTypes:=#[31,31] })(A B:Addr)(n m c:Nat)(l1 l2:List Int)(hs:a.eval s=.slice (some A) n n)(hx:a.eval x=.slice (some B) m c)(hr:Rd w .u8 (some A) n n l1)(hr2:Rd w .u8 (some B) m c l2)(hn:0<n)(hm:0<m)(hb:n+m<=100000)(h:∀A' c' w',w'.ownsRow w.heap.size 5 1 (.slice A' (n+m) c') (n+m) (ints .u8 (l1++l2))->Bl w w'->K (a.put o.dst (.slice A' (n+m) c')) w'): if Region.wanted o (yielded ops a.tmps)=true then Oper.wp prog o a w K Q else E:=by
 have hw:Region.wanted o (yielded ops a.tmps)=true:=by simp[Region.wanted,hgd]
 rw[if_pos hw];obtain⟨ht,i,z,hi,hz,hsz,hby,hzs,hp⟩:=et31;have rd:∀{D:Addr} {k c:Nat} {l:List Int},Rd w .u8 (some D) k c l->0<k->∀j u,(ints .u8 l)[j]? = some u->w.cell? (D.add j)=some u:=by
  intro D k c l h h0 j u hu;obtain⟨b,o',e,_,hc⟩:=h.at_ (by have:=h.cap;omega);injection e with e
  subst e;rw[Addr.add_mid];exact hc j u hu
 obtain⟨v',w',hrun,h2,h3⟩:=run_append_arg_grows (P:=prog) w 31 o.type 5 i z 1 1 ht hi hz hsz hby hzs hp A n n (ints .u8 l1) (by rw[ints_len,hr.len,Nat.mul_one]) (rd hr hn) B m c (ints .u8 l2) (by rw[ints_len,hr2.len,Nat.mul_one]) (rd hr2 hm) o_ (by unfold maxLen;omega) o_;unfold Oper.wp execOp;simp only[ho,resolve,invoke,builtin,Sem.run_bind,Sem.run_pure,Result.andThen_ok,List.map_toArray,List.map_cons,List.map_nil,hs,hx,hrun];have hv:∃A' c',v'=.slice A' (n+m) c':=by
  rcases h2.2 with⟨rfl,h0⟩|⟨g,cap,_,rfl,_⟩
  · exact⟨none,0,by rw[h0]⟩
  exact⟨_,_,rfl⟩
 obtain⟨A',c',rfl⟩:=hv;exact h A' c' w' (by unfold ints at h2 ⊢;rw[List.map_append];exact h2) ((Below.refl _ w).grown h3 (Nat.le_refl _) (fun k hk=>by cases hk))
theorem zc137:Tryz.zeroCells137=(wlC zwl).toArray:=by kernel_rfl
theorem built137(parts:List (Nat×Value)):prog.built 137 parts=Instr.fill (#[(0,1),(1,1),(2,73),(75,1),(76,32)][·]?) (wlC zwl).toArray parts:=by kernel_rfl
theorem run_build137(x:WlP)(h:VwOk x.t x.ad x.ch)(h2:x.tag.length=32)(hX:∃A n c,x.X=.slice A n c)(w:World):(Instr.build 137 #[(0,.int .i64 x.lf),(1,.int .i64 x.fr),(2,.agg (vw x.e x.t x.ad x.k x.ch).toArray),(3,x.X),(4,.agg (ints .u8 x.tag).toArray)]).run prog w=.ok (.agg (wlC x).toArray) w:=by
 obtain⟨A,n,c,hX⟩:=hX;refine run_build w 137 _ _ ?_;rw[built137,hX];have e1:wlC zwl=[] ++ [.int .i64 0]++([.int .i64 0]++vw 0 z31 zb 0 z32++([.slice none 0 0]++ints .u8 zl)):=rfl;rw[e1,fill_splice (l1:=[]) (l0:=[.int .i64 0]) (vs:=[.int .i64 x.lf]) (off:=0) (size:=1) rfl rfl rfl rfl rfl];have e2:([]:List Value) ++ [.int .i64 x.lf]++([.int .i64 0]++vw 0 z31 zb 0 z32++([.slice none 0 0]++ints .u8 zl))=[.int .i64 x.lf] ++ [.int .i64 0]++(vw 0 z31 zb 0 z32++([.slice none 0 0]++ints .u8 zl)):=by simp
 rw[e2,fill_splice (l1:=[.int .i64 x.lf]) (l0:=[.int .i64 0]) (vs:=[.int .i64 x.fr]) (off:=1) (size:=1) rfl rfl rfl rfl rfl];have e3:[Value.int .i64 x.lf] ++ [.int .i64 x.fr]++(vw 0 z31 zb 0 z32++([.slice none 0 0]++ints .u8 zl))=[.int .i64 x.lf,.int .i64 x.fr]++vw 0 z31 zb 0 z32++([.slice none 0 0]++ints .u8 zl):=by simp
 rw[e3,fill_splice (l1:=[.int .i64 x.lf,.int .i64 x.fr]) (l0:=vw 0 z31 zb 0 z32) (vs:=(vw x.e x.t x.ad x.k x.ch)) (off:=2) (size:=73) rfl rfl rfl (vw_len h) (by rw[vw_len h,vw_len zvOk])];have e4:[Value.int .i64 x.lf,.int .i64 x.fr]++(vw x.e x.t x.ad x.k x.ch)++([.slice none 0 0]++ints .u8 zl)=([Value.int .i64 x.lf,.int .i64 x.fr]++(vw x.e x.t x.ad x.k x.ch)) ++ [.slice none 0 0]++ints .u8 zl:=by simp
 rw[e4,fill_splice (l1:=[Value.int .i64 x.lf,.int .i64 x.fr]++(vw x.e x.t x.ad x.k x.ch)) (l0:=[Value.slice none 0 0]) (vs:=[Value.slice A n c]) (off:=75) (size:=1) rfl rfl (by simp[vw_len h]) rfl rfl];have e5:([Value.int .i64 x.lf,.int .i64 x.fr]++(vw x.e x.t x.ad x.k x.ch)) ++ [.slice A n c]++ints .u8 zl=([Value.int .i64 x.lf,.int .i64 x.fr]++(vw x.e x.t x.ad x.k x.ch) ++ [.slice A n c])++ints .u8 zl ++ []:=by simp
 rw[e5,fill_splice (l1:=[Value.int .i64 x.lf,.int .i64 x.fr]++(vw x.e x.t x.ad x.k x.ch) ++ [Value.slice A n c]) (l0:=ints .u8 zl) (vs:=ints .u8 x.tag) (off:=76) (size:=32) rfl rfl (by simp[vw_len h]) (by rw[ints_len,h2]) (by rw[ints_len,ints_len,h2];rfl)];simp[Instr.fill,wlC,hX]
theorem step_build{K:Act->World->Prop}{Q:Exit->Act->World->Prop}(hgd:o.guard=none)(t:TypeId)(ps:Array (Nat×Operand))(ho:o.op=.build t ps)(parts:Array (Nat×Value))(hp:(ps.map fun(i,x)=>(i,a.eval x))=parts)(v:Value)(hrun:(Instr.build t parts).run prog w=.ok v w)(h:K (a.put o.dst v) w):if Region.wanted o (yielded ops a.tmps)=true then Oper.wp prog o a w K Q else E:=by
 have hw:Region.wanted o (yielded ops a.tmps)=true:=by simp[Region.wanted,hgd]
 rw[if_pos hw];unfold Oper.wp execOp;simp only[ho,hp,Sem.run_bind,hrun,Result.andThen_ok];exact h
def WcR(w:World)(r:Ending)(w':World):Prop:=∃z e,r=.returned (.tuple #[.agg (wlC z).toArray,.int .i64 e])/\WlOk w' z/\∀b o n c,z.X=.slice (some ⟨b,o,none⟩) n c->w.heap.size<=b
theorem greet_any(b:Nat)(x:PyP)(n:Nat)(p q sx:List Int)(w:World)(hc:Cel w b 82 (pyC x))(hok:PyOk x)(hn8:n<8)(hp:p.length=32)(hq:q.length=32)(hs:sx.length=32):Calls prog 108 #[.pointer (some ⟨b,0,none⟩),.int .i64 n,.agg (ints .u8 p).toArray,.agg (ints .u8 q).toArray,.agg (ints .u8 sx).toArray] w fun r w'=>WcR w r w'/\Bl w w':=by
 obtain⟨w1,hW⟩:=ex_ (((((w.alloc (.cells (ints .u8 p).toArray 43)).alloc (.cells (ints .u8 q).toArray 43)).alloc (.cells (ints .u8 sx).toArray 43)).alloc (.cells Tryz.zeroCells137 137)));have hb1:Bl w w1:=by rw[hW];exact bal (bal (bal b0_))
 have HB1:=hd_ hb1;have HP1:Hid (Blk w1 w.heap.size .u8 43 p):=by rw[hW];exact(((blk_new w .u8 43 p _ rfl).below b0_ s_).below b0_ s1_).below b0_ s1_
 have HQ1:Hid (Blk w1 (w.heap.size+1) .u8 43 q):=by rw[hW];exact((blk_new _ .u8 43 q _ s_).below b0_ s_).below b0_ s_
 have HS1:Hid (Blk w1 (w.heap.size+2) .u8 43 sx):=by rw[hW];exact(blk_new _ .u8 43 sx _ s_).below b0_ s_
 have HR1:Hid (Cel w1 (w.heap.size+3) 137 (wlC zwl)):=by rw[hW,zc137];exact Cel.new _ s_ rfl
 have HC0:=hd_ hc;have HOk:=hd_ hok;have HPp:=hd_ hp;have HQq:=hd_ hq;have HSs:=hd_ hs;have hbw:b<w.heap.size:=hc.lt;have hni:(n:Int)<8:=by omega
 obtain⟨mm,hmm⟩:=Int.eq_ofNat_of_zero_le hok.lf.1;have HMM:=hd_ hmm;obtain⟨L1,hL1⟩:∃L,x.t.getD (n*2+1) 0=L:=⟨_,rfl⟩;have HL1:=hd_ hL1;have hVI:Hid ((prog.info? 45).map (·.size)=some (vw x.e x.t x.ad x.k x.ch).length):=vw_hi hok.vw;have HW:=hd_ hW;clear hW hb1 hc hok hp hq hs hmm hL1;go_enter func108,ntmps108
 go_wp2_with fail;refine pr_ 0 13 (bt 13 0) fun w1d hw1d=>?_;refine mG ?_;have HP:Hid (Blk w1d w.heap.size .u8 43 p):=by rw[<-hw1d,<- HW.out];exact HP1.out.drew
 have HQ:Hid (Blk w1d (w.heap.size+1) .u8 43 q):=by rw[<-hw1d,<- HW.out];exact HQ1.out.drew
 have HS:Hid (Blk w1d (w.heap.size+2) .u8 43 sx):=by rw[<-hw1d,<- HW.out];exact HS1.out.drew
 have HR:Hid (Cel w1d (w.heap.size+3) 137 (wlC zwl)):=by rw[<-hw1d,<- HW.out];exact HR1.out.drew
 have HB:Hid (Bl w w1d):=by rw[<-hw1d,<- HW.out];exact HB1.out.drew
 clear hw1d HP1 HQ1 HS1 HR1 HB1 HW;refine wpAny_of_last (S:=fun w'=>w'.cell? ⟨b,73,none⟩=some (.int .i64 mm)/\Hid (Cel w' b 82 (pyC x))) (ds:=[12]) _ _ _ _ ?_;have hH:(fun w'=>w'.cell? ⟨b,73,none⟩=some (.int .i64 mm)/\Hid (Cel w' b 82 (pyC x))) w1d:=⟨((HC0.out.below HB.out hbw).cell 73).trans ((py_lf HOk.out).trans (by rw[HMM.out])),HC0.out.below HB.out hbw⟩;refine ts_ 0 6 7 (bt 13 63) hH ?_;refine mD ?_;repeat (first|(refine tk_ 43 (.tmp 24) b (110+i*32) (ints .u8 ((x.nd.drop (i*32)).take 32)) (fun _ h=>py_nr HOk.out h.2.out i HI.out) underlying43 rfl (hi43 (py_nl HOk.out i HI.out)).out ?_)|(refine uA ?_)|(refine mB2 ?_))
 refine takes_nil ?_;refine ts_ 7 2 5 (bt 13 447) hH ?_;refine mD ?_;repeat (first|(refine tk_ 43 (.tmp 24) b (110+i*32) (ints .u8 ((x.nd.drop (i*32)).take 32)) (fun _ h=>py_nr HOk.out h.2.out i HI.out) underlying43 rfl (hi43 (py_nl HOk.out i HI.out)).out ?_)|(refine uA ?_)|(refine mB2 ?_))
 refine takes_nil ?_;clear hH;refine join_ (σ:=Nat×Nat) 1 (bt 13 4095) (fun s=>match s with|(i,b11)=>[(21,.int .i64 i),(24,.pointer (some ⟨b,110+i*32,none⟩)),(25,.agg (ints .u8 ((x.nd.drop (i*32)).take 32)).toArray),(12,.pointer (some ⟨b11,0,none⟩))]) (fun s w'=>match s with|(i,b11)=>Hid (Blk w' w.heap.size .u8 43 p)/\Hid (Blk w' (w.heap.size+1) .u8 43 q)/\Hid (Blk w' (w.heap.size+2) .u8 43 sx)/\Hid (Cel w' (w.heap.size+3) 137 (wlC zwl))/\Hid (Bl w w')/\Hid (i<3)/\Hid (Row w' b11 .u8 43 32)/\Hid (w.heap.size+3<b11)) ?_ (fun st0=>?_)
 · rintro⟨i,b11⟩ wc ⟨HP,HQ,HS,HR,HB,HI,H12,H12b⟩;refine mE ?_;have hH:=trivial;refine tl_ 12 ?_;refine mF ?_;have hb12:=H12b.out;have HLn:=hd_ (py_nl HOk.out i HI.out);obtain⟨l12,hl12⟩:=ex_ (((x.nd.drop (i*32)).take 32));rw[<-hl12]at HLn ⊢;clear hH hl12
   go_wp2_with (refine store_blk rfl 43 (.tmp 12) (.tmp 25) rr b11 .u8 l12 rr rr H12.out HLn.out (by show _=_;rw[HLn.out];exact info43) ?_
                intro w3 hS hG
                have HT3:=hd_ hS
                have HP3:=hd_ (HP.out.grown hG s1_)
                have HQ3:=hd_ (HQ.out.grown hG s1_)
                have HS3:=hd_ (HS.out.grown hG s1_)
                have HR3:=hd_ (HR.out.grown hG s1_)
                have HB3:=hd_ (HB.out.grown hG HB.out.size (fun k hk=>by cases hk;omega))
                clear hS hG HP HQ HS HR HB H12)
   refine pr_ 0 23 (bt 23 0) fun w1d hw1d=>?_;refine mG ?_;(have mT:Hid (Blk w1d b11 .u8 43 l12):=by rw[<-hw1d];exact HT3.out.drew);(have mP:Hid (Blk w1d w.heap.size .u8 43 p):=by rw[<-hw1d];exact HP3.out.drew);(have mQ:Hid (Blk w1d (w.heap.size+1) .u8 43 q):=by rw[<-hw1d];exact HQ3.out.drew);(have mS:Hid (Blk w1d (w.heap.size+2) .u8 43 sx):=by rw[<-hw1d];exact HS3.out.drew);(have mR:Hid (Cel w1d (w.heap.size+3) 137 (wlC zwl)):=by rw[<-hw1d];exact HR3.out.drew);(have mB:Hid (Bl w w1d):=by rw[<-hw1d];exact HB3.out.drew);have hH:(fun w'=>w'.cell? ⟨b,1+n*2+1,none⟩=some (.int .i64 L1)/\Hid (Blk w' (w.heap.size+2) .u8 43 sx)) w1d:=⟨(by have:=(py_rg0 HOk.out (HC0.out.below mB.out hbw)) (1+(n*2+1)) _ ((vw_tree HOk.out.vw (n*2+1) o_).trans (by rw[HL1.out]));rwa [Nat.zero_add,<- Nat.add_assoc]at this),mS⟩;clear hw1d HT3 HP3 HQ3 HS3 HR3 HB3;refine wpAny_of_last (S:=fun w'=>w'.cell? ⟨b,1+n*2+1,none⟩=some (.int .i64 L1)/\Hid (Blk w' (w.heap.size+2) .u8 43 sx)) (ds:=[21,22]) _ _ _ _ ?_;refine ts_ 0 11 12 (bt 23 2047) hH ?_;refine mD ?_;(repeat (first|(refine tk_ 43 (.tmp 9) (w.heap.size+2) 0 (ints .u8 sx) (fun _ h=>h.2.out.range) underlying43 rfl (hi43 HSs.out).out ?_)|(refine uA ?_)|(refine mB2 ?_)));refine takes_nil ?_;refine ts_ 14 2 10 (bt 23 51199) hH ?_;refine mD ?_;(repeat (first|(refine tk_ 43 (.tmp 9) (w.heap.size+2) 0 (ints .u8 sx) (fun _ h=>h.2.out.range) underlying43 rfl (hi43 HSs.out).out ?_)|(refine uA ?_)|(refine mB2 ?_)));refine takes_nil ?_;refine one_ (i:=11) (N:=some 38) (bt 23 53247) rfl rfl kk dd (fun K hK=>?_);refine goes_ func38 kk rfl #[.int .i64 n] rr rfl rfl mL ?_;refine(num_any n _).mono ?_;rintro _ wy ⟨⟨A5,c5,l5,rfl,ho5,hl5⟩,hb⟩;refine⟨_,rfl,?_⟩;have H5:Hid (Rd wy .u8 A5 8 c5 l5):=rd_own ho5 hl5;have zT:=hd_ (mT.out.below hb mT.out.lt);have zP:=hd_ (mP.out.below hb mP.out.lt);have zQ:=hd_ (mQ.out.below hb mQ.out.lt);have zS:=hd_ (mS.out.below hb mS.out.lt);have zR:=hd_ (mR.out.below hb mR.out.lt);have zB:=tb_ mB hb;clear mT mP mQ mS mR mB;obtain⟨mT,mP,mQ,mS,mR,mB⟩:=And.intro zT (And.intro zP (And.intro zQ (And.intro zS (And.intro zR zB))));clear zT zP zQ zS zR zB;refine hK.out _ _ ⟨(by have:=(py_rg0 HOk.out (HC0.out.below mB.out hbw)) (1+(n*2+1)) _ ((vw_tree HOk.out.vw (n*2+1) o_).trans (by rw[HL1.out]));rwa [Nat.zero_add,<- Nat.add_assoc]at this),mS⟩ (fun hH=>?_);clear hK K hb ho5 hl5;refine mN ?_;refine one_ (i:=12) (N:=some 39) (bt 23 57343) rfl rfl kk dd (fun K hK=>?_);obtain⟨wn,hwn⟩:=ex_ (wy.alloc (.cells #[.slice A5 8 c5] 31));refine value_ rr rfl (v:=.slice (some ⟨wy.heap.size,0,none⟩) 1 1) (w1:=wn) (by rw[hwn];go_simp) ?_;have hb:=nb_ hwn;(have H6:Hid (RdR wn (some ⟨wy.heap.size,0,none⟩) 1 1 60000 [(A5,8,c5,l5)]):=by rw[hwn];exact rdr_new wy [(A5,8,c5,l5)] _ 1 rfl rfl (fun r hr=>by simp at hr;subst hr;exact⟨H5.out,by show 8<=_;omega⟩));have zT:=hd_ (mT.out.below hb mT.out.lt);have zP:=hd_ (mP.out.below hb mP.out.lt);have zQ:=hd_ (mQ.out.below hb mQ.out.lt);have zS:=hd_ (mS.out.below hb mS.out.lt);have zR:=hd_ (mR.out.below hb mR.out.lt);have zB:=tb_ mB hb;clear mT mP mQ mS mR mB;obtain⟨mT,mP,mQ,mS,mR,mB⟩:=And.intro zT (And.intro zP (And.intro zQ (And.intro zS (And.intro zR zB))));clear zT zP zQ zS zR zB;refine hK.out _ _ ⟨(by have:=(py_rg0 HOk.out (HC0.out.below mB.out hbw)) (1+(n*2+1)) _ ((vw_tree HOk.out.vw (n*2+1) o_).trans (by rw[HL1.out]));rwa [Nat.zero_add,<- Nat.add_assoc]at this),mS⟩ (fun hH=>?_);clear hK K hb hwn;refine mN ?_;refine one_ (i:=13) (N:=some 40) (bt 23 65535) rfl rfl kk dd (fun K hK=>?_);refine goes_ func37 kk rfl #[.agg (ints .u8 sx).toArray,.string ⟨#[104,101,108,108,111]⟩,.slice (some ⟨wy.heap.size,0,none⟩) 1 1] rr rfl rfl mL ?_;refine(derive_any sx _ _ 1 1 _ _ HSs.out dd H6.out o_).mono ?_;rintro _ wz ⟨⟨ld,hld,rfl⟩,hb⟩;refine⟨_,rfl,?_⟩;have HLd:=hd_ hld;have zT:=hd_ (mT.out.below hb mT.out.lt);have zP:=hd_ (mP.out.below hb mP.out.lt);have zQ:=hd_ (mQ.out.below hb mQ.out.lt);have zS:=hd_ (mS.out.below hb mS.out.lt);have zR:=hd_ (mR.out.below hb mR.out.lt);have zB:=tb_ mB hb;clear mT mP mQ mS mR mB;obtain⟨mT,mP,mQ,mS,mR,mB⟩:=And.intro zT (And.intro zP (And.intro zQ (And.intro zS (And.intro zR zB))));clear zT zP zQ zS zR zB;refine hK.out _ _ ⟨(by have:=(py_rg0 HOk.out (HC0.out.below mB.out hbw)) (1+(n*2+1)) _ ((vw_tree HOk.out.vw (n*2+1) o_).trans (by rw[HL1.out]));rwa [Nat.zero_add,<- Nat.add_assoc]at this),mS⟩ (fun hH=>?_);clear hK K hb hld H5 H6;refine mN ?_;refine one_ (i:=16) (N:=some 43) (bt 23 131071) rfl rfl kk dd (fun K hK=>?_);refine step_append_full rfl (.tmp 41) (.tmp 42) rfl ⟨w.heap.size,0,none⟩ ⟨b11,0,none⟩ 32 32 32 p l12 rr rr (rd_blk mP.out HPp.out) (rd_blk mT.out HLn.out) dd dd dd ?_;intro A6 c6 wu ho6 hb;have hwu:w.heap.size+3<wu.heap.size:=Nat.lt_of_lt_of_le mR.out.lt hb.size;have H6:Hid (Rd wu .u8 A6 64 c6 (p++l12)):=rd_own ho6 (by simp[HPp.out,HLn.out]);have zT:=hd_ (mT.out.below hb mT.out.lt);have zP:=hd_ (mP.out.below hb mP.out.lt);have zQ:=hd_ (mQ.out.below hb mQ.out.lt);have zS:=hd_ (mS.out.below hb mS.out.lt);have zR:=hd_ (mR.out.below hb mR.out.lt);have zB:=tb_ mB hb;clear mT mP mQ mS mR mB;obtain⟨mT,mP,mQ,mS,mR,mB⟩:=And.intro zT (And.intro zP (And.intro zQ (And.intro zS (And.intro zR zB))));clear zT zP zQ zS zR zB;refine hK.out _ _ ⟨(by have:=(py_rg0 HOk.out (HC0.out.below mB.out hbw)) (1+(n*2+1)) _ ((vw_tree HOk.out.vw (n*2+1) o_).trans (by rw[HL1.out]));rwa [Nat.zero_add,<- Nat.add_assoc]at this),mS⟩ (fun hH=>?_);clear hK K hb ho6;refine norm_ (a':=?_) ?_ ?_;rotate_left;(· show Act.put _ (some 43) _=_;simp only[Act.put,List.setIfInBounds_toArray,List.set_cons_zero,List.set_cons_succ];rfl);refine one_ (i:=17) (N:=some 44) (bt 23 262143) rfl rfl kk dd (fun K hK=>?_);refine goes_ func161 kk rfl #[.int .i64 L1,.agg (ints .u8 ld).toArray,.slice A6 (32+32) c6] rr rfl rfl mL ?_;refine(seal_any L1 ld A6 64 c6 _ _ HLd.out H6.out o_).mono ?_;rintro _ wv ⟨⟨A9,m9,c9,e9,rfl,ho9,hm9⟩,hb⟩;refine⟨_,rfl,?_⟩;have HO9:=hd_ ho9;have zT:=hd_ (mT.out.below hb mT.out.lt);have zP:=hd_ (mP.out.below hb mP.out.lt);have zQ:=hd_ (mQ.out.below hb mQ.out.lt);have zS:=hd_ (mS.out.below hb mS.out.lt);have zR:=hd_ (mR.out.below hb mR.out.lt);have zB:=tb_ mB hb;clear mT mP mQ mS mR mB;obtain⟨mT,mP,mQ,mS,mR,mB⟩:=And.intro zT (And.intro zP (And.intro zQ (And.intro zS (And.intro zR zB))));clear zT zP zQ zS zR zB;refine hK.out _ _ ⟨(by have:=(py_rg0 HOk.out (HC0.out.below mB.out hbw)) (1+(n*2+1)) _ ((vw_tree HOk.out.vw (n*2+1) o_).trans (by rw[HL1.out]));rwa [Nat.zero_add,<- Nat.add_assoc]at this),mS⟩ (fun hH=>?_);clear hK K hb ho9;refine mN ?_;refine ts_ 18 2 3 (bt 23 1048575) hH ?_;refine mD ?_;(repeat (first|(refine tk_ 43 (.tmp 9) (w.heap.size+2) 0 (ints .u8 sx) (fun _ h=>h.2.out.range) underlying43 rfl (hi43 HSs.out).out ?_)|(refine uA ?_)|(refine mB2 ?_)));refine takes_nil ?_;refine ps_ 20 1 2 (bt 23 2097151) ?_;refine mT1 ?_;refine tl_ 21 ?_;refine mF ?_;clear hH;obtain⟨l9,hl9⟩:=HO9.out.rd;have HR9:=hd_ hl9;clear hl9;go_wp2_with fail;refine pr_ 0 15 (bt 15 0) fun w1d hw1d=>?_;refine mG ?_;(have hQ:Hid (Blk w1d (w.heap.size+1) .u8 43 q):=by rw[<-hw1d];exact mQ.out.drew);(have hR:Hid (Cel w1d (w.heap.size+3) 137 (wlC zwl)):=by rw[<-hw1d];exact mR.out.drew);(have hB:Hid (Bl w w1d):=by rw[<-hw1d];exact mB.out.drew);(have hO:Hid (WlOk w1d (⟨n,mm,x.e,x.k,x.t,x.ch,x.ad,.slice A9 m9 c9,q⟩:WlP)):=by rw[<-hw1d];exact⟨HOk.out.vw,HQq.out,A9,m9,c9,l9,rfl,HR9.out.below (Below.refl _ _).drew,by omega⟩);(have hO9:Hid (OwnB w1d wu.heap.size (.slice A9 m9 c9) m9):=by rw[<-hw1d];exact HO9.out.drew);have hH:(fun w'=>w'.cell? ⟨b,73,none⟩=some (.int .i64 mm)/\Hid (Cel w' b 82 (pyC x))/\Hid (Blk w' (w.heap.size+1) .u8 43 q)) w1d:=⟨((HC0.out.below hB.out hbw).cell 73).trans ((py_lf HOk.out).trans (by rw[HMM.out])),HC0.out.below hB.out hbw,hQ⟩;clear hw1d mT mP mQ mS mR mB;refine wpAny_of_last (S:=fun w'=>w'.cell? ⟨b,73,none⟩=some (.int .i64 mm)/\Hid (Cel w' b 82 (pyC x))/\Hid (Blk w' (w.heap.size+1) .u8 43 q)) (ds:=[13,14]) _ _ _ _ ?_;refine ts_ 0 11 4 (bt 15 2047) hH ?_;refine mD ?_;(repeat (first|(refine tk_ 45 (.tmp 54) b 0 ((vw x.e x.t x.ad x.k x.ch)) (fun _ h=>py_rg0 HOk.out h.2.1.out) underlying45 rfl hVI.out ?_)|(refine tk_ 43 (.tmp 8) (w.heap.size+1) 0 (ints .u8 q) (fun _ h=>h.2.2.out.range) underlying43 rfl (hi43 HQq.out).out ?_)|(refine uA ?_)|(refine mB3 ?_)));refine takes_nil ?_;refine ps_ 12 1 3 (bt 15 6143) ?_;refine mT1 ?_;refine one_ (i:=11) (N:=some 58) (bt 15 8191) rfl rfl kk dd (fun K hK=>?_);refine step_build rfl 137 _ rfl #[(0,.int .i64 n),(1,.int .i64 mm),(2,.agg (vw x.e x.t x.ad x.k x.ch).toArray),(3,.slice A9 m9 c9),(4,.agg (ints .u8 q).toArray)] (by simp only[List.map_toArray,List.map_cons,List.map_nil];rfl) _ (run_build137 (⟨n,mm,x.e,x.k,x.t,x.ch,x.ad,.slice A9 m9 c9,q⟩:WlP) HOk.out.vw HQq.out ⟨_,_,_,rfl⟩ w1d) ?_;refine hK.out _ _ hH (fun hH=>?_);clear hK K;refine norm_ (a':=?_) ?_ ?_;rotate_left;(· show Act.put _ (some 58) _=_;simp only[Act.put,List.setIfInBounds_toArray,List.set_cons_zero,List.set_cons_succ];rfl);refine tl_ 13 ?_;refine mF ?_;clear hH;go_wp2_with (refine store_cel rfl 137 (.tmp 10) (.tmp 58) rr (w.heap.size+3) 0 137 [] (wlC zwl) [] (wlC (⟨n,mm,x.e,x.k,x.t,x.ch,x.ad,.slice A9 m9 c9,q⟩:WlP)) rr rr (by simpa using hR.out) rfl (by rw[wl_len zvOk rfl,wl_len HOk.out.vw HQq.out]) (wl_hi HOk.out.vw HQq.out) (all_oneCell_toArray (wl_one hO.out)) ?_;intro wl hCl hgl);have hload:=Cel.wlload (show Cel wl (w.heap.size+3) 137 (wlC (⟨n,mm,x.e,x.k,x.t,x.ch,x.ad,.slice A9 m9 c9,q⟩:WlP)) by simpa using hCl) HOk.out.vw HQq.out;refine bodyPost_ret (v:=.tuple #[.agg (wlC (⟨n,mm,x.e,x.k,x.t,x.ch,x.ad,.slice A9 m9 c9,q⟩:WlP)).toArray,.int .i64 e9]) (by simp[results,results108,asAddr,Act.put,hload]) rfl ⟨⟨(⟨n,mm,x.e,x.k,x.t,x.ch,x.ad,.slice A9 m9 c9,q⟩:WlP),e9,rfl,?_⟩,hB.out.grown hgl hB.out.size (fun k hk=>by cases hk;omega)⟩;obtain⟨l0,hl0,ho⟩:=hO9.out;obtain⟨l8,hl8⟩:=OwnB.rd (⟨l0,hl0,own_g ho hgl hwu⟩:OwnB wl wu.heap.size (.slice A9 m9 c9) m9);exact⟨⟨HOk.out.vw,HQq.out,A9,m9,c9,l8,rfl,hl8,by omega⟩,fun b' o' n' c' e=>by injection e with e;have:=(ho.lt b' (by rw[e];rfl)).1;omega⟩
 refine join_ (σ:=Nat) 2 (bt 13 2047) (fun s=>match s with|i=>[(21,.int .i64 i),(24,.pointer (some ⟨b,110+i*32,none⟩)),(25,.agg (ints .u8 ((x.nd.drop (i*32)).take 32)).toArray)]) (fun s w'=>match s with|i=>Hid (Blk w' w.heap.size .u8 43 p)/\Hid (Blk w' (w.heap.size+1) .u8 43 q)/\Hid (Blk w' (w.heap.size+2) .u8 43 sx)/\Hid (Cel w' (w.heap.size+3) 137 (wlC zwl))/\Hid (Bl w w')/\Hid (i<3)) ?_ (fun st1=>?_)
 · rintro i wc ⟨HP,HQ,HS,HR,HB,HI⟩;refine mE ?_;have hH:=trivial;refine one_ (i:=11) (N:=some 12) (bt 13 4095) rfl rfl kk dd (fun K hK=>?_);obtain⟨wn,hwn⟩:=ex_ (wc.alloc (.cells (ints .u8 zl).toArray 43));refine value_ rr rfl (v:=.pointer (some ⟨wc.heap.size,0,none⟩)) (w1:=wn) (vv hwn) ?_;have hbn:=nb_ hwn;have hlt3:=HR.out.lt;obtain⟨b11,hb11⟩:=ex_ (wc.heap.size);(have H12:Hid (Row wn b11 .u8 43 32):=by rw[hwn,hb11];exact Row.new zl _ rfl rfl);(have H12b:Hid (w.heap.size+3<b11):=by rw[hb11];exact hlt3);rw[<-hb11];clear hwn hb11 hlt3;have HPn:=hd_ (HP.out.below hbn HP.out.lt);have HQn:=hd_ (HQ.out.below hbn HQ.out.lt);have HSn:=hd_ (HS.out.below hbn HS.out.lt);have HRn:=hd_ (HR.out.below hbn HR.out.lt);have HBn:=tb_ HB hbn;have HIn:=hd_ (HI.out);refine hK.out _ _ (⟨((HC0.out.below HBn.out hbw).cell 73).trans ((py_lf HOk.out).trans (by rw[HMM.out])),HC0.out.below HBn.out hbw⟩) (fun hH=>?_);refine mN ?_;exact mH (st0 (i,b11) wn ⟨HPn,HQn,HSn,HRn,HBn,HIn,H12,H12b⟩)
 refine join_ (σ:=Nat) 4 (bt 13 2495) (fun s=>match s with|b11=>[(12,.pointer (some ⟨b11,0,none⟩))]) (fun s w'=>match s with|b11=>Hid (Blk w' w.heap.size .u8 43 p)/\Hid (Blk w' (w.heap.size+1) .u8 43 q)/\Hid (Blk w' (w.heap.size+2) .u8 43 sx)/\Hid (Cel w' (w.heap.size+3) 137 (wlC zwl))/\Hid (Bl w w')/\Hid (Row w' b11 .u8 43 32)/\Hid (w.heap.size+3<b11)) ?_ (fun st2=>?_)
 · rintro b11 wc ⟨HP,HQ,HS,HR,HB,H12,H12b⟩;refine mE ?_;have hH:=trivial;refine one_ (i:=6) (N:=some 21) (bt 13 2559) rfl rfl kk dd (fun K hK=>?_);refine goes_ func124 kk rfl #[.int .i64 mm,.int .i64 n] rr rfl rfl mL ?_;refine(place_any mm n _).mono ?_;rintro _ wn ⟨⟨i,hi,rfl⟩,hbn⟩;refine⟨_,rfl,?_⟩;have HI:Hid (i<3):=hi;(have hi3:(i:Int)<3:=by omega);have HPn:=hd_ (HP.out.below hbn HP.out.lt);have HQn:=hd_ (HQ.out.below hbn HQ.out.lt);have HSn:=hd_ (HS.out.below hbn HS.out.lt);have HRn:=hd_ (HR.out.below hbn HR.out.lt);have HBn:=tb_ HB hbn;have H12n:=hd_ (H12.out.below hbn H12.out.lt);have H12bn:=hd_ (H12b.out);refine hK.out _ _ (⟨((HC0.out.below HBn.out hbw).cell 73).trans ((py_lf HOk.out).trans (by rw[HMM.out])),HC0.out.below HBn.out hbw⟩) (fun hH=>?_);refine mN ?_;refine ts_ 9 2 1 (bt 13 4095) hH ?_;refine mD ?_;(repeat (first|(refine tk_ 43 (.tmp 24) b (110+i*32) (ints .u8 ((x.nd.drop (i*32)).take 32)) (fun _ h=>py_nr HOk.out h.2.out i HI.out) underlying43 rfl (hi43 (py_nl HOk.out i HI.out)).out ?_)|(refine uA ?_)|(refine mB2 ?_)));refine takes_nil ?_;exact mH (st0 (i,b11) wn ⟨HPn,HQn,HSn,HRn,HBn,HI,H12n,H12bn⟩)
 have hH:=trivial;refine two_ (i:=6) (j:=11) (Ni:=some 21) (Nj:=some 12) (bt 13 511) (bt 13 2495) rfl rfl rfl rfl kk dd dd (fun K hK=>?_) (fun K hK=>?_)
 · refine goes_ func124 kk rfl #[.int .i64 mm,.int .i64 n] rr rfl rfl mL ?_;refine(place_any mm n _).mono ?_;rintro _ wn ⟨⟨i,hi,rfl⟩,hbn⟩;refine⟨_,rfl,?_⟩;have HI:Hid (i<3):=hi;(have hi3:(i:Int)<3:=by omega);have HPn:=hd_ (HP.out.below hbn HP.out.lt);have HQn:=hd_ (HQ.out.below hbn HQ.out.lt);have HSn:=hd_ (HS.out.below hbn HS.out.lt);have HRn:=hd_ (HR.out.below hbn HR.out.lt);have HBn:=tb_ HB hbn;refine hK.out _ _ (⟨((HC0.out.below HBn.out hbw).cell 73).trans ((py_lf HOk.out).trans (by rw[HMM.out])),HC0.out.below HBn.out hbw⟩) (fun hH=>?_);refine mN ?_;refine ts_ 9 2 2 (bt 13 2047) hH ?_;refine mD ?_;(repeat (first|(refine tk_ 43 (.tmp 24) b (110+i*32) (ints .u8 ((x.nd.drop (i*32)).take 32)) (fun _ h=>py_nr HOk.out h.2.out i HI.out) underlying43 rfl (hi43 (py_nl HOk.out i HI.out)).out ?_)|(refine uA ?_)|(refine mB2 ?_)));refine takes_nil ?_;exact mH (st1 i wn ⟨HPn,HQn,HSn,HRn,HBn,HI⟩)
 obtain⟨wn,hwn⟩:=ex_ (w1d.alloc (.cells (ints .u8 zl).toArray 43));refine value_ rr rfl (v:=.pointer (some ⟨w1d.heap.size,0,none⟩)) (w1:=wn) (vv hwn) ?_;have hbn:=nb_ hwn;have hlt3:=HR.out.lt;obtain⟨b11,hb11⟩:=ex_ (w1d.heap.size);have H12:Hid (Row wn b11 .u8 43 32):=by rw[hwn,hb11];exact Row.new zl _ rfl rfl
 have H12b:Hid (w.heap.size+3<b11):=by rw[hb11];exact hlt3
 rw[<-hb11];clear hwn hb11 hlt3;have HPn:=hd_ (HP.out.below hbn HP.out.lt);have HQn:=hd_ (HQ.out.below hbn HQ.out.lt);have HSn:=hd_ (HS.out.below hbn HS.out.lt);have HRn:=hd_ (HR.out.below hbn HR.out.lt);have HBn:=tb_ HB hbn;refine hK.out _ _ (⟨((HC0.out.below HBn.out hbw).cell 73).trans ((py_lf HOk.out).trans (by rw[HMM.out])),HC0.out.below HBn.out hbw⟩) (fun hH=>?_);refine mN ?_;exact mH (st2 b11 wn ⟨HPn,HQn,HSn,HRn,HBn,H12,H12b⟩)
end Go.Proofs.YtppjnahcnofokaaGreat.T
namespace Go.Proofs.YtppjnahcnofokaaGreat.T
open Go.RowKit Go.Proofs.YtppjnahcnofokaaGreatW.PrintLast
open Go.Proofs.Tryz
variable{k:IntKind}{a:Act}{b i n B base m fuel D B':Nat}{l ch t0:List Int}{w w' w1 w2:World}{t:TypeId}{P:Program}{cs xs vs l3:List Value}{A A':Option Addr}{o oi:Oper}{e s f st fl:Int}{ops:Array Oper}{rest l0:List Oper}{v:Value}{r:Option Nat}{rs rs2:List (Option Addr×Nat×Nat×List Int)}{E:Prop}{ad ai go:List Bool}{N:Act->Prop}{place:Nat->Option (Nat×Nat)}{bad:Bool}{es es':List (Int×List Int)}{T:List TypeId}
theorem et131:ET 131 137 108 376:=et_of (z:=.agg (wlC zwl).toArray) underlying131 kk kk dd
theorem own_gr2{e size c:Nat}(h:w.ownsRow base e size v n xs)(hg:Gr2 b c w w')(hb:b<base)(hc:c<base):w'.ownsRow base e size v n xs:=
 ⟨h.1,h.2.imp id (fun⟨g,cap,cur,e1,h1,h2,h3⟩=>⟨g,cap,cur,e1,h1,(hg.block g (Array.getElem?_eq_some_iff.1 h2).1 o_ o_).trans h2,h3⟩)⟩
structure CmOw (w:World) (B:Nat) (y:CmP):Prop where
 tag:y.tag.length=32
 ops:∃A n c l,y.O=.slice A n c/\w.ownsRow B 55 5 (.slice A n c) n (ints .i64 l)/\n<=4
 votes:∃A n c l,y.V=.slice A n c/\w.ownsRow B 118 3 (.slice A n c) n (ints .i64 l)/\n<=8
 boxes:∃A n c rs,y.X=.slice A n c/\BxS w B (.slice A n c) n rs/\n<=30
variable{y:CmP}
theorem CmOw.ok(h:CmOw w B y):CmOk w y:=by
 obtain⟨h1,⟨A,n,c,l,e1,h2,h3⟩,⟨A4,n4,c4,l4,e4,h5,h6⟩,⟨A7,n7,c7,rs,e7,h8,h9⟩⟩:=h;exact⟨h1,⟨A,n,c,l,e1,(own_rgI h2).rg,h3⟩,⟨A4,n4,c4,l4,e4,(own_rgI h5).rg,h6⟩,⟨A7,n7,c7,e7,h8.rdl,h9⟩⟩
theorem CmOw.below(h:CmOw w B y)(hb:Bl w w'):CmOw w' B y:=by
 obtain⟨h1,⟨A,n,c,l,e1,h2,h3⟩,⟨A4,n4,c4,l4,e4,h5,h6⟩,⟨A7,n7,c7,rs,e7,h8,h9⟩⟩:=h;exact⟨h1,⟨A,n,c,l,e1,own_below h2 hb,h3⟩,⟨A4,n4,c4,l4,e4,own_below h5 hb,h6⟩,⟨A7,n7,c7,rs,e7,h8.below hb,h9⟩⟩
theorem CmOw.g{d:Nat}(h:CmOw w B y)(hg:w.grownBy w' (some d))(hd:d<B):CmOw w' B y:=by
 obtain⟨h1,⟨A,n,c,l,e1,h2,h3⟩,⟨A4,n4,c4,l4,e4,h5,h6⟩,⟨A7,n7,c7,rs,e7,h8,h9⟩⟩:=h;exact⟨h1,⟨A,n,c,l,e1,own_g h2 hg hd,h3⟩,⟨A4,n4,c4,l4,e4,own_g h5 hg hd,h6⟩,⟨A7,n7,c7,rs,e7,h8.g hg hd,h9⟩⟩
theorem CmOw.stag(h:CmOw w B y)(hl:l.length=32):CmOw w B ⟨y.e,y.f,y.O,y.V,y.s,y.p0,y.p1,y.p2,y.X,l,y.E,y.S⟩:=⟨hl,h.ops,h.votes,h.boxes⟩
theorem CmOw.ssig(h:CmOw w B y)(E S:Int):CmOw w B ⟨y.e,y.f,y.O,y.V,y.s,y.p0,y.p1,y.p2,y.X,y.tag,E,S⟩:=⟨h.tag,h.ops,h.votes,h.boxes⟩
theorem Rd.grown0{c:Nat}{row:Option Nat}(h:Rd w k A n c l)(hg:w.grownBy w' row)(hne:0<c->∀b o,A=some ⟨b,o,none⟩->some b≠row):Rd w' k A n c l:=by
 by_cases hc:0<c
 · exact h.grown hg (hne hc)
 exact⟨h.len,h.cap,fun h0=>absurd h0 hc⟩
structure WlS (w:World) (base:Nat) (v:Value) (n:Nat) (zs:List WlP):Prop where
 len:zs.length=n
 own:w.ownsRow base 137 108 v n (zs.flatMap wlC)
 ok:∀z ∈ zs,WlOk w z
 far:∀z ∈ zs,∀b o m c,z.X=.slice (some ⟨b,o,none⟩) m c->0<c->base<=b/\b<w.heap.size/\some b≠v.ownBlock
theorem WlS.nil(w:World)(base:Nat):WlS w base (.slice none 0 0) 0 []:=⟨rfl,World.ownsRow_nil _ _ _ _,(fun z h=>by cases h),(fun z h=>by cases h)⟩
variable{zs:List WlP}
theorem WlS.below(h:WlS w base v n zs)(hb:Bl w w'):WlS w' base v n zs:=
 ⟨h.len,own_below h.own hb,fun z hz=>(h.ok z hz).below hb,fun z hz b o m c e hc=>⟨(h.far z hz b o m c e hc).1,Nat.lt_of_lt_of_le (h.far z hz b o m c e hc).2.1 hb.size,(h.far z hz b o m c e hc).2.2⟩⟩
theorem WlOk.grown{z:WlP}{row:Option Nat}(h:WlOk w z)(hg:w.grownBy w' row)(hne:∀b o m c,z.X=.slice (some ⟨b,o,none⟩) m c->0<c->some b≠row):WlOk w' z:=by
 obtain⟨h1,h2,A,n,c,l,e,h3,h4⟩:=h;exact⟨h1,h2,A,n,c,l,e,h3.grown0 hg (fun hc b o ea=>hne b o n c (by rw[e,ea]) hc),h4⟩
theorem WlS.g{d:Nat}(h:WlS w base v n zs)(hg:w.grownBy w' (some d))(hd:d<base):WlS w' base v n zs:=
 ⟨h.len,own_g h.own hg hd,fun z hz=>(h.ok z hz).grown hg (fun b o m c e hc=>by have:=(h.far z hz b o m c e hc).1;simp;omega),fun z hz b o m c e hc=>⟨(h.far z hz b o m c e hc).1,Nat.lt_of_lt_of_le (h.far z hz b o m c e hc).2.1 hg.size,(h.far z hz b o m c e hc).2.2⟩⟩
theorem WlS.app{c':Nat}{z:WlP}(h:WlS w base v n zs)(hz:WlOk w z)(hfar:∀b o m c,z.X=.slice (some ⟨b,o,none⟩) m c->0<c->base<=b/\b<w.heap.size/\some b≠v.ownBlock)(hown:w'.ownsRow base 137 108 (.slice A' (n+1) c') (n+1) (zs.flatMap wlC++wlC z))(hg:w.grownBy w' v.ownBlock)(hat:(Value.slice A' (n+1) c').ownBlock=v.ownBlock\/(Value.slice A' (n+1) c').ownBlock=some w.heap.size):WlS w' base (.slice A' (n+1) c') (n+1) (zs ++ [z]):=by
 have hf:∀y ∈ zs ++ [z],∀b o m c,y.X=.slice (some ⟨b,o,none⟩) m c->0<c->base<=b/\b<w.heap.size/\some b≠v.ownBlock:=by
  intro y hy;rcases List.mem_append.1 hy with h'|h'
  · exact h.far y h'
  simp at h';subst h';exact hfar
 have ho:∀y ∈ zs ++ [z],WlOk w y:=by
  intro y hy;rcases List.mem_append.1 hy with h'|h'
  · exact h.ok y h'
  simp at h';subst h';exact hz
 refine⟨by simp[h.len],by simpa[List.flatMap_append] using hown,fun y hy=>(ho y hy).grown hg (fun b o m c e hc=>(hf y hy b o m c e hc).2.2),fun y hy b o m c e hc=>?_⟩;obtain⟨h1,h2,h3⟩:=hf y hy b o m c e hc;refine⟨h1,Nat.lt_of_lt_of_le h2 hg.size,?_⟩;rcases hat with e'|e'
 · rw[e'];exact h3
 rw[e'];simp;omega
def WlL(w:World)(A:Option Addr)(n c:Nat):Prop:=n<=c/\∀j,j<n->∃b o z,A=some ⟨b,o,none⟩/\b<w.heap.size/\w.rangeAt b (o+j*108) (wlC z)/\WlOk w z
theorem wl_chunk:∀(zs:List WlP) (_:∀z ∈ zs,(wlC z).length=108) (j:Nat) (hj:j<zs.length) (k:Nat) (v:Value),(wlC zs[j])[k]? = some v->(zs.flatMap wlC)[j*108+k]? = some v
 | [],_,j,hj,_,_,_=>by simp at hj
 | z :: zs,h,j,hj,k,v,hv=>by
  have hz:=h z s_;rw[List.flatMap_cons]
  cases j with
  | zero=>
   have hk:k<(wlC z).length:=(List.getElem?_eq_some_iff.1 hv).1;rw[Nat.zero_mul,Nat.zero_add,List.getElem?_append_left hk];exact hv
  | succ j=>
   rw[List.getElem?_append_right (by rw[hz];omega),hz,show(j+1)*108+k-108=j*108+k by omega];exact wl_chunk zs (fun y hy=>h y (by simp[hy])) j (by simpa using hj) k v (by simpa using hv)
theorem WlS.read{c:Nat}(h:WlS w base (.slice A n c) n zs):WlL w A n c:=by
 have hi:=own_rgI h.own;refine⟨hi.rg.cap,fun j hj=>?_⟩;have hcap:=hi.rg.cap;obtain⟨b,o,e,hlt,hr⟩:=hi.rg.at_ o_;have hlen:=h.len;have hm:zs[j] ∈ zs:=List.getElem_mem _;refine⟨b,o,zs[j],e,hlt,fun k v hv=>?_,h.ok _ hm⟩;rw[Nat.add_assoc];exact hr _ v (wl_chunk zs (fun z hz=>wl_len (h.ok z hz).vw (h.ok z hz).tag) j o_ k v hv)
theorem WlL.nil(w:World):WlL w none 0 0:=⟨Nat.le_refl _,fun j hj=>by omega⟩
variable{x:PyP}
end Go.Proofs.YtppjnahcnofokaaGreat.T
namespace Go.Proofs.YtppjnahcnofokaaGreat.T
open Go.RowKit Go.Proofs.YtppjnahcnofokaaGreatW.PrintLast
open Go.Proofs.Tryz
variable{k:IntKind}{a:Act}{b i n B base m fuel D B':Nat}{l ch t0:List Int}{w w' w1 w2:World}{t:TypeId}{P:Program}{cs xs vs l3:List Value}{A A':Option Addr}{o oi:Oper}{e s f st fl:Int}{ops:Array Oper}{rest l0:List Oper}{v:Value}{r:Option Nat}{rs rs2:List (Option Addr×Nat×Nat×List Int)}{E:Prop}{ad ai go:List Bool}{N:Act->Prop}{place:Nat->Option (Nat×Nat)}{bad:Bool}{es es':List (Int×List Int)}{T:List TypeId}
theorem KeyAt.apart{g:Nat}(h:KeyAt w g s)(h':Cel w b t vs)(hne:t≠161):b≠g:=by
 rintro rfl;obtain⟨_,d,p,m,u,h,_⟩:=h;rw[Cel,h]at h';injection h' with h'
 injection h' with _ h'
 exact hne h'.symm
theorem BxS.mono{base':Nat}(h:BxS w base v n rs)(hb:base'<=base):BxS w base' v n rs:=
 ⟨⟨h.rows.len,own_mono h.rows.own hb,h.rows.each,h.rows.far⟩,h.small,fun r hr k hk=>Nat.le_trans hb (h.lo r hr k hk)⟩
theorem BxS.nil(w:World)(base:Nat):BxS w base (.slice none 0 0) 0 []:=⟨RowsO.nil _ _,fun r h=>(by cases h),fun r h=>(by cases h)⟩
theorem zcmOw(w:World)(B:Nat):CmOw w B zcm:=⟨rfl,⟨none,0,0,[],rfl,World.ownsRow_nil _ _ _ _,by omega⟩,⟨none,0,0,[],rfl,World.ownsRow_nil _ _ _ _,by omega⟩,⟨none,0,0,[],rfl,BxS.nil w B,by omega⟩⟩
variable{y:CmP}
theorem CmOw.shead(h:CmOw w B y)(e f:Int):CmOw w B ⟨e,f,y.O,y.V,y.s,y.p0,y.p1,y.p2,y.X,y.tag,y.E,y.S⟩:=⟨h.tag,h.ops,h.votes,h.boxes⟩
theorem CmOw.skeys(h:CmOw w B y)(s p0 p1 p2:Int):CmOw w B (y.keys s p0 p1 p2):=⟨h.tag,h.ops,h.votes,h.boxes⟩
theorem CmOw.sops{c:Nat}(h:CmOw w B y)(hO:w.ownsRow B 55 5 (.slice A n c) n (ints .i64 l))(hn:n<=4):CmOw w B ⟨y.e,y.f,.slice A n c,y.V,y.s,y.p0,y.p1,y.p2,y.X,y.tag,y.E,y.S⟩:=⟨h.tag,⟨A,n,c,l,rfl,hO,hn⟩,h.votes,h.boxes⟩
theorem CmOw.svotes{c:Nat}(h:CmOw w B y)(hO:w.ownsRow B 118 3 (.slice A n c) n (ints .i64 l))(hn:n<=8):CmOw w B ⟨y.e,y.f,y.O,.slice A n c,y.s,y.p0,y.p1,y.p2,y.X,y.tag,y.E,y.S⟩:=⟨h.tag,h.ops,⟨A,n,c,l,rfl,hO,hn⟩,h.boxes⟩
theorem CmOw.sboxes{c:Nat}(h:CmOw w B y)(hO:BxS w B (.slice A n c) n rs)(hn:n<=30):CmOw w B ⟨y.e,y.f,y.O,y.V,y.s,y.p0,y.p1,y.p2,.slice A n c,y.tag,y.E,y.S⟩:=⟨h.tag,h.ops,h.votes,⟨A,n,c,rs,rfl,hO,hn⟩⟩
theorem CmOw.gr2{c:Nat}(h:CmOw w B y)(hX:y.X=.slice none 0 0)(hg:Gr2 b c w w')(hb:b<B)(hc:c<B):CmOw w' B y:=by
 obtain⟨h1,⟨A,n,c',l,e1,h2,h3⟩,⟨A4,n4,c4,l4,e4,h5,h6⟩,-⟩:=h;exact⟨h1,⟨A,n,c',l,e1,own_gr2 h2 hg hb hc,h3⟩,⟨A4,n4,c4,l4,e4,own_gr2 h5 hg hb hc,h6⟩,⟨none,0,0,[],hX,BxS.nil w' B,by omega⟩⟩
theorem CmOw.chgk{g:Nat}(h:CmOw w B y)(hg:ChgK g w w')(hb:g<B):CmOw w' B y:=h.g hg.gr hb
structure CoS (w w':World) (b bv ba bx B:Nat) (x:PyP) (y:CmP) (x2:PyP) (V:List Value) (lA:List Bool) (p:List Int):Prop where
 N:(w.heap.size+1<bv/\w.heap.size+1<ba/\w.heap.size+1<bx)/\(bv<B/\ba<B/\bx<B)/\bv≠ba/\bv≠bx/\ba≠bx/\b<w.heap.size
 P:Blk w' w.heap.size .u8 43 p
 C:Cel w' (w.heap.size+1) 130 (cmC y)
 O:CmOw w' B y
 V:Cel w' bv 45 V
 A:Cel w' ba 41 (bools lA)
 X:Cel w' bx 82 (pyC x2)
 D:Cel w' b 82 (pyC x)
section
variable {w w' w'':World} {b bv ba bx B:Nat} {x:PyP} {y:CmP} {x2:PyP} {V:List Value} {lA:List Bool} {p:List Int}
theorem CoS.below(h:CoS w w' b bv ba bx B x y x2 V lA p)(hb:Bl w' w''):CoS w w'' b bv ba bx B x y x2 V lA p:=
 ⟨h.N,h.P.below hb h.P.lt,h.C.below hb h.C.lt,h.O.below hb,h.V.below hb h.V.lt,h.A.below hb h.A.lt,h.X.below hb h.X.lt,h.D.below hb h.D.lt⟩
theorem CoS.drew(h:CoS w w' b bv ba bx B x y x2 V lA p):CoS w w'.drew b bv ba bx B x y x2 V lA p:=h.below (Below.refl _ _).drew
theorem CoS.setC{y':CmP}(h:CoS w w' b bv ba bx B x y x2 V lA p)(hg:w'.grownBy w'' (some (w.heap.size+1)))(hC:Cel w'' (w.heap.size+1) 130 (cmC y'))(hO:CmOw w'' B y'):CoS w w'' b bv ba bx B x y' x2 V lA p:=by
 obtain⟨⟨a1,a2,a3⟩,-,-,-,-,a4⟩:=h.N;exact⟨h.N,h.P.grown hg s_,hC,hO,h.V.grown hg s1_,h.A.grown hg s1_,h.X.grown hg s1_,h.D.grown hg s1_⟩
theorem CoS.setV{V':List Value}(h:CoS w w' b bv ba bx B x y x2 V lA p)(hg:w'.grownBy w'' (some bv))(hC:Cel w'' bv 45 V'):CoS w w'' b bv ba bx B x y x2 V' lA p:=by
 obtain⟨⟨a1,a2,a3⟩,⟨a5,a6,a7⟩,a8,a9,a10,a4⟩:=h.N;exact⟨h.N,h.P.grown hg s1_,h.C.grown hg s1_,h.O.g hg a5,hC,h.A.grown hg s1_,h.X.grown hg s1_,h.D.grown hg s1_⟩
theorem CoS.setX{x3:PyP}(h:CoS w w' b bv ba bx B x y x2 V lA p)(hg:w'.grownBy w'' (some bx))(hC:Cel w'' bx 82 (pyC x3)):CoS w w'' b bv ba bx B x y x3 V lA p:=by
 obtain⟨⟨a1,a2,a3⟩,⟨a5,a6,a7⟩,a8,a9,a10,a4⟩:=h.N;exact⟨h.N,h.P.grown hg s1_,h.C.grown hg s1_,h.O.g hg a7,h.V.grown hg s1_,h.A.grown hg s1_,hC,h.D.grown hg s1_⟩
theorem CoS.climb{y':CmP}{x3:PyP}{p0 p1 p2:Int}(h:CoS w w' b bv ba bx B x y x2 V lA p)(hX:y.X=.slice none 0 0)(hy:y'=y.keys s p0 p1 p2)(hg:Gr2 bx (w.heap.size+1) w' w'')(hC:Cel w'' (w.heap.size+1) 130 (cmC y'))(hD:Cel w'' bx 82 (pyC x3)):CoS w w'' b bv ba bx B x y' x3 V lA p:=by
 subst hy;obtain⟨⟨a1,a2,a3⟩,⟨a5,a6,a7⟩,a8,a9,a10,a4⟩:=h.N;exact⟨h.N,(hg.block _ h.P.lt o_ o_).trans h.P,hC,(h.O.gr2 hX hg o_ o_).skeys _ _ _ _,h.V.gr2 hg o_ o_,h.A.gr2 hg o_ o_,hD,h.D.gr2 hg o_ o_⟩
theorem CoS.chgk{g:Nat}(h:CoS w w' b bv ba bx B x y x2 V lA p)(hk:KeyAt w' g s)(hg:ChgK g w' w'')(hgw:g<w.heap.size):CoS w w'' b bv ba bx B x y x2 V lA p:=by
 obtain⟨⟨a1,a2,a3⟩,⟨a5,a6,a7⟩,a8,a9,a10,a4⟩:=h.N;have hb:=hk.apart h.D dd;exact⟨h.N,h.P.grown hg.gr s1_,h.C.grown hg.gr s1_,h.O.chgk hg o_,h.V.grown hg.gr s1_,h.A.grown hg.gr s1_,h.X.grown hg.gr s1_,h.D.grown hg.gr s1_⟩
theorem below_new{o:Obj}(h1:w1=w.alloc o)(hg:w1.grownBy w2 (some w.heap.size)):Bl w w2:=by
 subst h1;exact b0_.grown hg s_ (fun k hk=>by cases hk;omega)
end
theorem fill_one(cs:List Value)(n:Nat)(l0:List Value)(h0:l0.length=n)(hn:cs.length=n):Instr.fill (fun i=>some (i*n,n)) l0.toArray [(0,.agg cs.toArray)]=some cs.toArray:=by
 have e:l0.toArray=([]++l0 ++ []).toArray:=by simp
 rw[e,fill_splice (l1:=[]) (l0:=l0) (l3:=[]) (vs:=cs) (off:=0) (size:=n) s_ rfl rfl hn (by rw[h0,hn])];simp[Instr.fill]
theorem wl_bs{Q:Exit->Act->World->Prop}(hgd:o.guard=none)(X:Operand)(ho:o.op=.buildSlice 131 1 #[(0,X)])(z:WlP)(hz:(wlC z).length=108)(hx:a.eval X=.agg (wlC z).toArray)(h:wpList prog ops Q rest (a.put o.dst (.slice (some ⟨w.heap.size,0,none⟩) 1 1)) (w.alloc (.cells (wlC z).toArray 137))):wpList prog ops Q (o :: rest) a w:=by
 obtain⟨ht,i,z0,hi,hz0,hsz,hby,hzs,hp⟩:=et131;refine wpList_buildSlice hgd 131 137 1 #[(0,X)] ho (wlC z).toArray i z0 ht hi hz0 (by rw[hsz];decide) (by rw[hsz];decide) ?_ h;rw[hsz];simp only[List.map_toArray,List.map_cons,List.map_nil,hx];obtain⟨l0,hl0⟩:∃l0:List Value,((Array.range (1*108)).map (z0.cells[· % z0.cells.size]!))=l0.toArray:=⟨_,(Array.toArray_toList).symm⟩;rw[hl0];refine fill_one _ 108 l0 ?_ hz;have:=congrArg Array.size hl0;simpa using this.symm
end Go.Proofs.YtppjnahcnofokaaGreat.T
namespace Go.Proofs.YtppjnahcnofokaaGreat.T
open Go.RowKit Go.Proofs.YtppjnahcnofokaaGreatW.PrintLast
open Go.Proofs.Tryz
variable{k:IntKind}{a:Act}{b i n B base m fuel D B':Nat}{l ch t0:List Int}{w w' w1 w2:World}{t:TypeId}{P:Program}{cs xs vs l3:List Value}{A A':Option Addr}{o oi:Oper}{e s f st fl:Int}{ops:Array Oper}{rest l0:List Oper}{v:Value}{r:Option Nat}{rs rs2:List (Option Addr×Nat×Nat×List Int)}{E:Prop}{ad ai go:List Bool}{N:Act->Prop}{place:Nat->Option (Nat×Nat)}{bad:Bool}{es es':List (Int×List Int)}{T:List TypeId}
end Go.Proofs.YtppjnahcnofokaaGreat.T
namespace Go.Proofs.YtppjnahcnofokaaGreat.T
open Go.RowKit Go.Proofs.YtppjnahcnofokaaGreatW.PrintLast
open Go.Proofs.Tryz
variable{k:IntKind}{a:Act}{b i n B base m fuel D B':Nat}{l ch t0:List Int}{w w' w1 w2:World}{t:TypeId}{P:Program}{cs xs vs l3:List Value}{A A':Option Addr}{o oi:Oper}{e s f st fl:Int}{ops:Array Oper}{rest l0:List Oper}{v:Value}{r:Option Nat}{rs rs2:List (Option Addr×Nat×Nat×List Int)}{E:Prop}{ad ai go:List Bool}{N:Act->Prop}{place:Nat->Option (Nat×Nat)}{bad:Bool}{es es':List (Int×List Int)}{T:List TypeId}
theorem seed_any(n:Int)(w:World):Calls prog 19 #[.int .i64 n] w fun r w'=>IsH r/\Bl w w':=by
 obtain⟨w1,hW⟩:=ex_ (w.alloc (.cells (ints .u8 zl).toArray 43));have HB1:Hid (Bl w w1):=by rw[hW];exact b0_
 have HZ1:Hid (Row w1 w.heap.size .u8 43 32):=by rw[hW];exact Row.new zl _ rfl rfl
 have HW:=hd_ hW;clear hW;go_enter func19,ntmps19
 go_wp2_with fail;change Calls _ _ _ (w.alloc (.cells (ints .u8 zl).toArray 43)) _;rw[<-HW.out];refine(num_any n w1).mono ?_;rintro _ w2 ⟨⟨A,c,l,rfl,ho,hl⟩,hb⟩;have HB2:=tb_ HB1 hb;have HZ2:=hd_ (HZ1.out.below hb HZ1.out.lt);have HR2:Hid (Rd w2 .u8 A 8 c l):=rd_own ho hl;obtain⟨w3,hW3⟩:=ex_ (w2.alloc (.cells #[.slice A 8 c] 31));have hb3:=nb_ hW3;have HB3:=tb_ HB2 hb3;have HZ3:=hd_ (HZ2.out.below hb3 HZ2.out.lt);have HR3:Hid (RdR w3 (some ⟨w2.heap.size,0,none⟩) 1 1 60000 [(A,8,c,l)]):=by rw[hW3];exact rdr_new w2 [(A,8,c,l)] _ 1 rfl rfl (fun r hr=>by simp at hr;subst hr;exact⟨HR2.out,by show 8<=_;omega⟩)
 have HW3:=hd_ hW3;clear hb ho hl hb3 hW3 HB2 HZ2 HR2 HB1 HZ1 HW;go_wp2_with fail;change Calls _ _ #[.agg (ints .u8 zl).toArray,_,_] (w2.alloc (.cells #[.slice A 8 c] 31)) _;rw[<-HW3.out];refine(derive_any zl _ _ 1 1 _ w3 rfl dd HR3.out o_).mono ?_;rintro _ w4 ⟨⟨ld,hld,rfl⟩,hb⟩;have HLd:=hd_ hld;have HB4:=tb_ HB3 hb;have HZ4:=hd_ (HZ3.out.below hb HZ3.out.lt);clear hb hld HB3 HZ3 HR3 HW3;go_wp2_with (refine store_blk rfl 43 (.tmp 2) (.tmp 7) rr w.heap.size .u8 ld rr rr HZ4.out HLd.out (by show _=_;rw[HLd.out];exact info43) ?_;intro w5 hS hG);have hload:=run_loadVar_mid (P:=prog) w5 w.heap.size 0 43 (ints .u8 ld) _ hS.range underlying43 rfl (hi43 HLd.out).out;exact bodyPost_ret (v:=.agg (ints .u8 ld).toArray) (by simp[results,results19,asAddr,Act.put,hload]) rfl ⟨⟨ld,HLd.out,rfl⟩,HB4.out.grown hG HB4.out.size (fun k hk=>by cases hk;omega)⟩
def zpy:PyP:=⟨0,0,z31,z32,zb,0,.pointer none,zl,[false,false,false],z96,zl,zl⟩
theorem built82(parts:List (Nat×Value)):prog.built 82 parts=Instr.fill (#[(0,73),(73,1),(74,1),(75,32),(107,3),(110,96),(206,32),(238,32)][·]?) (pyC zpy).toArray parts:=by kernel_rfl
def npy(lf:Int)(G:Value)(ow:List Int):PyP:=⟨0,0,z31,z32,zb,lf,G,ow,[false,false,false],z96,zl,zl⟩
theorem npyOk{lf:Int}{a:Option Addr}{ow:List Int}(h1:0<=lf/\lf<8)(h2:ow.length=32):PyOk (npy lf (.pointer a) ow):=⟨zvOk,h2,rfl,rfl,rfl,rfl,h1,⟨a,rfl⟩⟩
theorem fill_G(lf:Int)(G:Value)(ow:List Int)(hG:∃a,G=.pointer a)(h:ow.length=32)(rest:List (Nat×Value)):Instr.fill (#[(0,73),(73,1),(74,1),(75,32),(107,3),(110,96),(206,32),(238,32)][·]?) (pyC (npy lf (.pointer none) zl)).toArray ((2,G) :: (3,.agg (ints .u8 ow).toArray) :: rest)=Instr.fill (#[(0,73),(73,1),(74,1),(75,32),(107,3),(110,96),(206,32),(238,32)][·]?) (pyC (npy lf G ow)).toArray rest:=by
 obtain⟨a,rfl⟩:=hG;have e0:pyC (npy lf (.pointer none) zl)=(zvw ++ [.int .i64 lf]) ++ [.pointer none]++(ints .u8 zl++(bools [false,false,false]++ints .u8 z96++ints .u8 zl++ints .u8 zl)):=by simp[pyC,npy,zvw]
 have e1:(zvw ++ [.int .i64 lf]) ++ [Value.pointer a]++(ints .u8 zl++(bools [false,false,false]++ints .u8 z96++ints .u8 zl++ints .u8 zl))=((zvw ++ [.int .i64 lf]) ++ [Value.pointer a])++ints .u8 zl++(bools [false,false,false]++ints .u8 z96++ints .u8 zl++ints .u8 zl):=by simp
 have e2:((zvw ++ [.int .i64 lf]) ++ [Value.pointer a])++ints .u8 ow++(bools [false,false,false]++ints .u8 z96++ints .u8 zl++ints .u8 zl)=pyC (npy lf (.pointer a) ow):=by simp[pyC,npy,zvw]
 rw[e0,fill_splice (l1:=zvw ++ [Value.int .i64 lf]) (l0:=[Value.pointer none]) (vs:=[Value.pointer a]) (off:=74) (size:=1) rfl rfl rfl rfl rfl,e1,
  fill_splice (l1:=(zvw ++ [Value.int .i64 lf]) ++ [Value.pointer a]) (l0:=ints .u8 zl) (vs:=ints .u8 ow) (off:=75) (size:=32) rfl rfl rfl (by rw[ints_len,h]) (by rw[ints_len,ints_len,h];rfl),e2]
theorem run_build82(a:Option Addr)(ow:List Int)(h:ow.length=32)(w:World):(Instr.build 82 #[(2,.pointer a),(3,.agg (ints .u8 ow).toArray)]).run prog w=.ok (.agg (pyC (npy 0 (.pointer a) ow)).toArray) w:=by
 refine run_build w 82 _ _ ?_;rw[built82];refine(fill_G 0 (.pointer a) ow ⟨a,rfl⟩ h []).trans ?_;rfl
theorem run_build82l(lf:Int)(a:Option Addr)(ow:List Int)(h:ow.length=32)(w:World):(Instr.build 82 #[(1,.int .i64 lf),(2,.pointer a),(3,.agg (ints .u8 ow).toArray)]).run prog w=.ok (.agg (pyC (npy lf (.pointer a) ow)).toArray) w:=by
 refine run_build w 82 _ _ ?_;rw[built82];have e0:pyC zpy=zvw ++ [.int .i64 0]++([.pointer none]++(ints .u8 zl++(bools [false,false,false]++ints .u8 z96++ints .u8 zl++ints .u8 zl))):=by simp[pyC,zpy,zvw]
 have e1:zvw ++ [.int .i64 lf]++([.pointer none]++(ints .u8 zl++(bools [false,false,false]++ints .u8 z96++ints .u8 zl++ints .u8 zl)))=pyC (npy lf (.pointer none) zl):=by simp[pyC,npy,zvw]
 rw[e0];show Instr.fill _ _ ((1,Value.int .i64 lf) :: _)=_;rw[fill_splice (l1:=zvw) (l0:=[Value.int .i64 0]) (vs:=[Value.int .i64 lf]) (off:=73) (size:=1) rfl rfl rfl rfl rfl,e1];refine(fill_G lf (.pointer a) ow ⟨a,rfl⟩ h []).trans ?_;rfl
end Go.Proofs.YtppjnahcnofokaaGreat.T
namespace Go.Proofs.YtppjnahcnofokaaGreat.T
open Go.RowKit Go.Proofs.YtppjnahcnofokaaGreatW.PrintLast
open Go.Proofs.Tryz
variable{k:IntKind}{a:Act}{b i n B base m fuel D B':Nat}{l ch t0:List Int}{w w' w1 w2:World}{t:TypeId}{P:Program}{cs xs vs l3:List Value}{A A':Option Addr}{o oi:Oper}{e s f st fl:Int}{ops:Array Oper}{rest l0:List Oper}{v:Value}{r:Option Nat}{rs rs2:List (Option Addr×Nat×Nat×List Int)}{E:Prop}{ad ai go:List Bool}{N:Act->Prop}{place:Nat->Option (Nat×Nat)}{bad:Bool}{es es':List (Int×List Int)}{T:List TypeId}
end Go.Proofs.YtppjnahcnofokaaGreat.T
namespace Go.Proofs.YtppjnahcnofokaaGreat.T
open Go.RowKit Go.Proofs.YtppjnahcnofokaaGreatW.PrintLast
open Go.Proofs.Tryz
variable{k:IntKind}{a:Act}{b i n B base m fuel D B':Nat}{l ch t0:List Int}{w w' w1 w2:World}{t:TypeId}{P:Program}{cs xs vs l3:List Value}{A A':Option Addr}{o oi:Oper}{e s f st fl:Int}{ops:Array Oper}{rest l0:List Oper}{v:Value}{r:Option Nat}{rs rs2:List (Option Addr×Nat×Nat×List Int)}{E:Prop}{ad ai go:List Bool}{N:Act->Prop}{place:Nat->Option (Nat×Nat)}{bad:Bool}{es es':List (Int×List Int)}{T:List TypeId}
theorem fitsLeaf_any(n:Int)(w:World):Calls prog 174 #[.int .i64 n] w fun e w'=>e=.returned (.bool (decide (0<=n/\n<8)))/\w=w':=by
 by_cases h:0<=n<;>by_cases h1:n<8
 all_goals
  go_enter func174,ntmps174
  go_wp2
  go_ret
  exact⟨by simp[h,h1],rfl⟩
theorem wl_t{z:WlP}{L:Int}(h:Cel w b 137 (wlC z))(hv:VwOk z.t z.ad z.ch)(i:Nat)(hi:i<31)(hL:z.t.getD i 0=L):w.cell? ⟨b,3+i,none⟩=some (.int .i64 L):=by
 have:=(wl_view h) (1+i) _ ((vw_tree hv i hi).trans (by rw[hL]));rwa [<-Nat.add_assoc]at this
theorem gd36:prog.eqGuardType prog.depth 36=false:=by kernel_rfl
theorem step_cmp{K:Act->World->Prop}{Q:Exit->Act->World->Prop}(hgd:o.guard=none)(op:BinOp)(t u:TypeId)(x y:Operand)(ho:o.op=.binOp op t x y u)(xs ys:Array Value)(v:Value)(hx:a.eval x=.agg xs)(hy:a.eval y=.agg ys)(hm:prog.eqGuardType prog.depth t=false)(hrun:(binOp op t (.agg xs) (.agg ys)).run prog w=.ok v w)(h:K (a.put o.dst v) w):if Region.wanted o (yielded ops a.tmps)=true then Oper.wp prog o a w K Q else E:=by
 have hw:Region.wanted o (yielded ops a.tmps)=true:=by simp[Region.wanted,hgd]
 rw[if_pos hw];unfold Oper.wp execOp;simp only[ho,hx,hy,Sem.run_bind,run_eqGuard_agg w op t x y xs ys hm,hrun,Result.andThen_ok];exact h
end Go.Proofs.YtppjnahcnofokaaGreat.T
namespace Go.Proofs.YtppjnahcnofokaaGreat.T
open Go.RowKit Go.Proofs.YtppjnahcnofokaaGreatW.PrintLast
open Go.Proofs.Tryz
variable{k:IntKind}{a:Act}{b i n B base m fuel D B':Nat}{l ch t0:List Int}{w w' w1 w2:World}{t:TypeId}{P:Program}{cs xs vs l3:List Value}{A A':Option Addr}{o oi:Oper}{e s f st fl:Int}{ops:Array Oper}{rest l0:List Oper}{v:Value}{r:Option Nat}{rs rs2:List (Option Addr×Nat×Nat×List Int)}{E:Prop}{ad ai go:List Bool}{N:Act->Prop}{place:Nat->Option (Nat×Nat)}{bad:Bool}{es es':List (Int×List Int)}{T:List TypeId}
structure KeyedOk (t:List Int) (m:Nat) (s p0 p1 p2:Int) (l:List Int):Prop where
 len:l.length=31
 e:l.getD (m*2+1) 0=s
 oth:∀j,j<16->j≠m*2+1->l.getD j 0=t.getD j 0
 nod:∀j,j<15->l.getD (16+j) 0=t.getD (16+j) 0\/(j % 2=1/\(l.getD (16+j) 0=p0\/l.getD (16+j) 0=p1\/l.getD (16+j) 0=p2))
theorem KeyedOk.first{t:List Int}(ht:t.length=31)(m:Nat)(hm:m<8)(s p0 p1 p2:Int):KeyedOk t m s p0 p1 p2 (t.set (m*2+1) s):=by
 refine⟨by simp[ht],getD_set_self o_,fun j h1 h2=>getD_set_ne (fun h=>h2 h.symm),fun j hj=>.inl (getD_set_ne o_)⟩
theorem KeyedOk.node{t:List Int}{p0 p1 p2:Int}(h:KeyedOk t m s p0 p1 p2 l)(hm:m<8)(z:Nat)(hz:z<15)(ho:z % 2=1)(y:Int)(hy:y=p0\/y=p1\/y=p2):KeyedOk t m s p0 p1 p2 (l.set (16+z) y):=by
 obtain⟨h1,h2,h3,h4⟩:=h;refine⟨by simp[h1],?_,fun j h5 h6=>?_,fun j hj=>?_⟩
 · rw[getD_set_ne o_];exact h2
 · rw[getD_set_ne o_];exact h3 j h5 h6
 by_cases e:z=j
 · subst e;rw[getD_set_self o_];exact .inr ⟨ho,hy⟩
 rw[getD_set_ne o_];exact h4 j hj
theorem mem_both{t:List Int}(ht:TreeOk t)(hi:i<8)(h:memB t i=true):t.getD (i*2) 0≠0/\t.getD (i*2+1) 0≠0:=by
 have:=(ht.leaf i hi).2.2;unfold memB at h;simp at h;by_cases e:t.getD (i*2) 0=0
 · exact absurd (this.1 e) (by rcases h with h|h;exact absurd e h;exact h)
 exact⟨e,fun e2=>e (this.2 e2)⟩
theorem KeyedOk.tree{t:List Int}{p0 p1 p2:Int}(h:KeyedOk t m s p0 p1 p2 l)(hm:m<8)(ht:TreeOk t)(hmem:memB t m=true)(hk:pubB s=true/\pubB p0=true/\pubB p1=true/\pubB p2=true):TreeOk l:=by
 refine⟨h.len,fun i hi=>?_,fun i hi=>?_⟩
 · by_cases e:i=m;(· subst e;have h0:=h.oth (i*2) o_ o_;have hb:=mem_both ht hi hmem;have:=pub_key hk.1;rw[h.e,h0];exact⟨(ht.leaf i hi).1,this.1,⟨fun e=>absurd e hb.1,fun e=>absurd e this.2⟩⟩);rw[h.oth (i*2) o_ o_,h.oth (i*2+1) o_ o_];exact ht.leaf i hi
 rcases h.nod i hi with e|⟨ho,e⟩
 · rw[e];exact ht.node i hi
 refine⟨?_,fun h=>by omega⟩;rcases e with e|e|e<;>rw[e]
 · exact(pub_key hk.2.1).1
 · exact(pub_key hk.2.2.1).1
 exact(pub_key hk.2.2.2).1
theorem KeyedOk.mem{t:List Int}{p0 p1 p2:Int}(h:KeyedOk t m s p0 p1 p2 l)(hs:pubB s=true)(i:Nat)(hi:i<8)(hmem:memB t i=true):memB l i=true:=by
 by_cases e:i=m
 · subst e;unfold memB;rw[h.e];simp[(pub_key hs).2]
 unfold memB at hmem ⊢;rw[h.oth (i*2) o_ o_,h.oth (i*2+1) o_ o_];exact hmem
def KdRF(e k:Int)(t ch:List Int)(ad:List Bool)(x:CmP)(r:Ending):Prop:=∃t2:List Int,KeyedOk t x.f.toNat x.s x.p0 x.p1 x.p2 t2/\r=.returned (.agg (vw (wrap64 (e+1)) t2 ad k ch).toArray)
theorem keyed_f(e k:Int)(t ch:List Int)(ad:List Bool)(x:CmP)(w:World)(hv:VwOk t ad ch)(hx:x.tag.length=32)(hf:0<=x.f/\x.f<8):Calls prog 102 #[.agg (vw e t ad k ch).toArray,.agg (cmC x).toArray] w fun r w'=>KdRF e k t ch ad x r/\Bl w w':=by
 obtain⟨w1,hW⟩:=ex_ (((w.alloc (.cells (vw e t ad k ch).toArray 45)).alloc (.cells (cmC x).toArray 130)).alloc (.cells zvw.toArray 45));have HB1:Hid (Bl w w1):=by rw[hW];exact bal (bal b0_)
 have HP1:Hid (Cel w1 w.heap.size 45 (vw e t ad k ch)):=by rw[hW];exact((Cel.new _ rfl rfl).alloc _).alloc _
 have HC1:Hid (Cel w1 (w.heap.size+1) 130 (cmC x)):=by rw[hW];exact(Cel.new _ s_ rfl).alloc _
 have HZ1:Hid (Cel w1 (w.heap.size+2) 45 zvw):=by rw[hW];exact Cel.new _ s_ rfl
 have hs1:w.heap.size+3<=w1.heap.size:=by rw[hW];simp
 obtain⟨m,hm⟩:=Int.eq_ofNat_of_zero_le hf.1;have hm8:m<8:=by omega
 have hm8i:(m:Int)<8:=by omega
 have HV:=hd_ hv;have HX:=hd_ hx;have HM:Hid (x.f.toNat=m):=by show _=_;rw[hm];rfl
 have k0:w1.cell? ⟨w.heap.size,0,none⟩=some (.int .i64 e):=(HP1.out.cell 0).trans rfl;have f0:=HP1.out.free 0;obtain⟨w2,hw2⟩:=ex_ (w1.setCell ⟨w.heap.size,0,none⟩ (.int .i64 (wrap64 (e+1))));have HP2:Hid (Cel w2 w.heap.size 45 (vw (wrap64 (e+1)) t ad k ch)):=by rw[hw2];exact HP1.out.set 0 _
 have hg2:w1.grownBy w2 (some w.heap.size):=by rw[hw2];exact grownBy_set1 _ _ _ _
 have HC2:=hd_ (HC1.out.grown hg2 s_);have HZ2:=hd_ (HZ1.out.grown hg2 s_);have HB2:Hid (Bl w w2):=HB1.out.grown hg2 HB1.out.size (fun k hk=>by cases hk;omega);have k1:w2.cell? ⟨w.heap.size+1,1,none⟩=some (.int .i64 m):=(HC2.out.cell 1).trans (by show some (Value.int .i64 x.f)=_;rw[hm]);have k4:w2.cell? ⟨w.heap.size+1,4,none⟩=some (.int .i64 x.s):=(HC2.out.cell 4).trans rfl;obtain⟨E,hE⟩:=ex_ (wrap64 (e+1));rw[<-hE]at HP2 hw2;have kt:w2.cell? ⟨w.heap.size,1+m*2+1,none⟩=some (.int .i64 (t.getD (m*2+1) 0)):=(HP2.out.cell _).trans (by have:=vw_tree (e:=E) (k:=k) HV.out (m*2+1) o_;rwa [<-Nat.add_assoc]at this);have ft:=HP2.out.free (1+m*2+1);obtain⟨w3,hw3⟩:=ex_ (w2.setCell ⟨w.heap.size,1+m*2+1,none⟩ (.int .i64 x.s));have HP3:Hid (Cel w3 w.heap.size 45 (vw E (t.set (m*2+1) x.s) ad k ch)):=by rw[hw3];have:=HP2.out.set (1+m*2+1) (.int .i64 x.s);rw[Nat.add_assoc,vw_set_t HV.out (m*2+1) o_]at this;rw[Nat.add_assoc];exact this
 have hg3:w2.grownBy w3 (some w.heap.size):=by rw[hw3];exact grownBy_set1 _ _ _ _
 have HC3:=hd_ (HC2.out.grown hg3 s_);have HZ3:=hd_ (HZ2.out.grown hg3 s_);have HB3:Hid (Bl w w3):=HB2.out.grown hg3 HB2.out.size (fun k hk=>by cases hk;omega);have k13:w3.cell? ⟨w.heap.size+1,1,none⟩=some (.int .i64 m):=(HC3.out.cell 1).trans (by show some (Value.int .i64 x.f)=_;rw[hm]);have HE:=hd_ hE;have HW:=hd_ hW;have HW2:=hd_ hw2;have HW3:=hd_ hw3;have Hk:=hd_ (And.intro k0 (And.intro f0 (And.intro k1 (And.intro k4 (And.intro kt (And.intro ft k13))))));clear hW hw2 hw3 hE hv hx hg2 hg3 k0 f0 k1 k4 kt ft k13 hf hm;go_enter func102,ntmps102
 obtain⟨k0,f0,k1,k4,kt,ft,k13⟩:=Hk.out
 go_wp2_with (first
  | ((change wpList _ _ _ _ _ (((w.alloc (.cells (vw e t ad k ch).toArray 45)).alloc (.cells (cmC x).toArray 130)).alloc (.cells zvw.toArray 45)));rw[<-HW.out])
  | (rw[<-HE.out];rw[<-HW2.out])
  | (rw[<-HW3.out]))
 refine(path_f m w3 ⟨by omega,by omega⟩).mono ?_;rintro _ w4 ⟨⟨a,b,c,ha,hb,hc,rfl⟩,hb4⟩;have HP4:=hd_ (HP3.out.below hb4 HP3.out.lt);have HC4:=hd_ (HC3.out.below hb4 HC3.out.lt);have HZ4:=hd_ (HZ3.out.below hb4 HZ3.out.lt);have HB4:=tb_ HB3 hb4;clear k0 f0 k1 k4 kt ft k13 hb4;go_wp2_with fail;go_loopw [22] (fun v wr=>∃(i:Nat) (t2:List Int),v=.int .i64 i/\i<=3/\Hid (KeyedOk t m x.s x.p0 x.p1 x.p2 t2)/\Hid (Cel wr w.heap.size 45 (vw E t2 ad k ch))/\Hid (Cel wr (w.heap.size+1) 130 (cmC x))/\Hid (Cel wr (w.heap.size+2) 45 zvw)/\Hid (Bl w wr)) (fun v _=>3-(intOf v).toNat)
 case atStart=>exact⟨0,t.set (m*2+1) x.s,rfl,by omega,KeyedOk.first HV.out.tree m hm8 _ _ _ _,HP4,HC4,HZ4,HB4⟩
 case round=>
  clear HP4 HC4 HZ4 HB4
  obtain⟨wa,rfl⟩:=ex_ (wr)
  obtain⟨i,t2,rfl,hi,HT2,HP,HC,HZ,HB⟩:=hrel
  have HV2:Hid (VwOk t2 ad ch):=⟨HT2.out.len,HV.out.admins,HV.out.chain⟩
  by_cases hlt:i<3
  · obtain⟨q,hq,hx⟩:=idx3 a b c i hlt wa;(have hq15:0<=q/\q<15/\q % 2=1:=by rcases hq with rfl|rfl|rfl<;>assumption);obtain⟨z,rfl⟩:=Int.eq_ofNat_of_zero_le hq15.1;(have hz:z<15:=by omega);(have hzo:z % 2=1:=by omega);(have hz15:(z:Int)<15:=by omega);(have hi3:(i:Int)<3:=by omega);have HX2:=hd_ hx;(have k5:∃y,wa.cell? ⟨w.heap.size+1,5+i,none⟩=some (.int .i64 y)/\(y=x.p0\/y=x.p1\/y=x.p2):=by(rcases(show i=0\/i=1\/i=2 by omega) with rfl|rfl|rfl);(· exact⟨x.p0,(HC.out.cell 5).trans rfl,.inl rfl⟩);(· exact⟨x.p1,(HC.out.cell 6).trans rfl,.inr (.inl rfl)⟩);exact⟨x.p2,(HC.out.cell 7).trans rfl,.inr (.inr rfl)⟩);obtain⟨y,k5,hy5⟩:=k5;have HNT:=hd_ (HT2.out.node hm8 z hz hzo y hy5);clear hy5;have k17:wa.cell? ⟨w.heap.size,17+z,none⟩=some (.int .i64 (t2.getD (16+z) 0)):=(HP.out.cell _).trans (by have:=vw_tree (e:=E) (k:=k) HV2.out (16+z) o_;rwa [<-Nat.add_assoc]at this);have f17:=HP.out.free (17+z);clear hx hq hq15;go_wp2_with (refine wpList_index rfl 128 (.tmp 21) (.tmp 22) rfl _ _ _ rr rr HX2.out ?_);go_roundw;case rel=>
     have hset:=HP.out.set (17+z) (.int .i64 y);rw[show 17+z=1+(16+z) by omega,vw_set_t HV2.out (16+z) o_]at hset;have hgz:=grownBy_set1 wa w.heap.size (17+z) (.int .i64 y);exact⟨i+1,t2.set (16+z) y,by go_num,by omega,HNT,by rw[show 17+z=1+(16+z) by omega];exact hset,HC.out.grown hgz s_,HZ.out.grown hgz s_,HB.out.grown hgz HB.out.size (fun k hk=>by cases hk;omega)⟩
    case measure=>simp[intOf];omega
  · go_wp2_with (first
     | (refine wpList_load_mid rfl 45 (.tmp 2) rr w.heap.size 0 rr (vw E t2 ad k ch) _ HP.out.all underlying45 rfl (vw_hi HV2.out) ?_)
     | (refine store_cel rfl 45 (.tmp 4) (.tmp 35) rr (w.heap.size+2) 0 45 [] zvw [] (vw E t2 ad k ch) rr rr (by simpa using HZ.out) rfl (by rw[vw_len HV2.out,zvw,vw_len zvOk]) (vw_hi HV2.out) (all_oneCell_toArray (vw_all _ _ _ _ _)) ?_;intro wb hCb hgb))
    have hload:=Cel.vload (show Cel wb (w.heap.size+2) 45 (vw E t2 ad k ch) by simpa using hCb) HV2.out;refine bodyPost_ret (v:=.agg (vw E t2 ad k ch).toArray) (by simp[results,results102,asAddr,Act.put,hload]) rfl ⟨⟨t2,by rw[HM.out];exact HT2.out,by rw[HE.out]⟩,HB.out.grown hgb HB.out.size (fun k hk=>by cases hk;omega)⟩
theorem pleaf_f(p:List Int)(w:World)(hp:p.length=32):Calls prog 36 #[.agg (ints .u8 p).toArray] w fun r w'=>(∃a b:Int,r=.returned (.agg #[.int .i64 a,.int .i64 b])/\pubB a=true/\pubB b=true)/\Bl w w':=by
 obtain⟨w1,hW⟩:=ex_ ((w.alloc (.cells (ints .u8 p).toArray 43)).alloc (.cells #[.int .i64 0,.int .i64 0] 36));have HB1:Hid (Bl w w1):=by rw[hW];exact bal b0_
 have HP1:Hid (Blk w1 w.heap.size .u8 43 p):=by rw[hW];exact(blk_new w .u8 43 p _ rfl).below b0_ s_
 have HZ1:Hid (Row w1 (w.heap.size+1) .i64 36 2):=by rw[hW];exact Row.new [0,0] _ rfl s_
 have hs1:w.heap.size+2<=w1.heap.size:=by rw[hW];simp
 have HPp:=hd_ hp;have HW:=hd_ hW;clear hW hp;go_enter func36,ntmps36
 go_wp2_with fail;refine pr_ 0 9 (bt 9 0) fun w1d hw1d=>?_;refine mG ?_;have hH:(fun w'=>Hid (Blk w' w.heap.size .u8 43 p)/\Hid (Row w' (w.heap.size+1) .i64 36 2)/\Hid (Bl w1 w')) w1d:=by rw[<-hw1d];exact(show(fun w'=>Hid (Blk w' w.heap.size .u8 43 p)/\Hid (Row w' (w.heap.size+1) .i64 36 2)/\Hid (Bl w1 w')) ((w.alloc (.cells (ints .u8 p).toArray 43)).alloc (.cells #[.int .i64 0,.int .i64 0] 36)).drew from by rw[<-HW.out];exact⟨HP1.out.drew,HZ1.out.drew,(Below.refl _ _).drew⟩)
 clear hw1d;refine wpAny_of_last (S:=fun w'=>Hid (Blk w' w.heap.size .u8 43 p)/\Hid (Row w' (w.heap.size+1) .i64 36 2)/\Hid (Bl w1 w')) (ds:=[7,8]) _ _ _ _ ?_;refine ts_ 0 1 8 (bt 9 1) hH ?_;refine mD ?_;repeat (first|(refine tk_ 43 (.tmp 1) w.heap.size 0 (ints .u8 p) (fun _ h=>h.1.out.range) underlying43 rfl (hi43 HPp.out).out ?_)|(refine uA ?_)|(refine mB3 ?_))
 refine takes_nil ?_;refine ts_ 3 1 7 (bt 9 9) hH ?_;refine mD ?_;repeat (first|(refine tk_ 43 (.tmp 1) w.heap.size 0 (ints .u8 p) (fun _ h=>h.1.out.range) underlying43 rfl (hi43 HPp.out).out ?_)|(refine uA ?_)|(refine mB3 ?_))
 refine takes_nil ?_;refine one_ (i:=1) (N:=some 4) (bt 9 11) rfl rfl kk dd (fun K hK=>?_);refine goes_ func34 kk rfl #[.agg (ints .u8 p).toArray] rr rfl rfl mL ?_;refine(signer_any p _ HPp.out).mono ?_;rintro _ wa ⟨⟨g,s,hg,hk,rfl⟩,hba⟩;refine⟨_,rfl,?_⟩;have hg1:w1.heap.size<=g:=Nat.le_trans hH.2.2.out.size hg;have HK:=hd_ hk;refine hK.out _ _ ⟨hH.1.out.below hba hH.1.out.lt,hH.2.1.out.below hba hH.2.1.out.lt,hH.2.2.out.trans (hba.mono hH.2.2.out.size)⟩ (fun hH=>?_);clear hK K hk hba hg;refine mN ?_;refine one_ (i:=2) (N:=some 5) (bt 9 15) rfl rfl kk dd (fun K hK=>?_);refine goes_ func50 kk rfl #[.pointer (some ⟨g,0,none⟩)] rr rfl rfl mL ?_;refine(public_any g s _ HK.out).mono ?_;rintro _ wb ⟨rfl,-,hcx⟩;refine⟨_,rfl,?_⟩;refine hK.out _ _ ⟨hH.1.out.grown hcx.gr (by have:=hH.2.2.out.size;simp;omega),hH.2.1.out.grown hcx.gr s1_,hH.2.2.out.trans (hcx.below o_ hH.2.2.out.size)⟩ (fun hH=>?_);clear hK K hcx;refine mN ?_;refine one_ (i:=4) (N:=some 7) (bt 9 31) rfl rfl kk dd (fun K hK=>?_);refine goes_ func35 kk rfl #[.agg (ints .u8 p).toArray] rr rfl rfl mL ?_;refine(own_any p _ HPp.out).mono ?_;rintro _ wd ⟨⟨lo,hlo,rfl⟩,hbd⟩;refine⟨_,rfl,?_⟩;have HLo:=hd_ hlo;refine hK.out _ _ ⟨hH.1.out.below hbd hH.1.out.lt,hH.2.1.out.below hbd hH.2.1.out.lt,hH.2.2.out.trans (hbd.mono hH.2.2.out.size)⟩ (fun hH=>?_);clear hK K hlo hbd;refine mN ?_;refine one_ (i:=5) (N:=some 8) (bt 9 63) rfl rfl kk dd (fun K hK=>?_);refine goes_ func51 kk rfl #[.agg (ints .u8 lo).toArray] rr rfl rfl mL ?_;refine(node_any lo _ HLo.out).mono ?_;rintro _ we ⟨⟨g2,s2,hg2,hk2,rfl⟩,hbe⟩;refine⟨_,rfl,?_⟩;have hg3:w1.heap.size<=g2:=Nat.le_trans hH.2.2.out.size hg2;have HK2:=hd_ hk2;refine hK.out _ _ ⟨hH.1.out.below hbe hH.1.out.lt,hH.2.1.out.below hbe hH.2.1.out.lt,hH.2.2.out.trans (hbe.mono hH.2.2.out.size)⟩ (fun hH=>?_);clear hK K hk2 hbe hg2;refine mN ?_;refine one_ (i:=6) (N:=some 9) (bt 9 127) rfl rfl kk dd (fun K hK=>?_);refine goes_ func50 kk rfl #[.pointer (some ⟨g2,0,none⟩)] rr rfl rfl mL ?_;refine(public_any g2 s2 _ HK2.out).mono ?_;rintro _ wf ⟨rfl,-,hcx⟩;refine⟨_,rfl,?_⟩;refine hK.out _ _ ⟨hH.1.out.grown hcx.gr (by have:=hH.2.2.out.size;simp;omega),hH.2.1.out.grown hcx.gr s1_,hH.2.2.out.trans (hcx.below o_ hH.2.2.out.size)⟩ (fun hH=>?_);clear hK K hcx;refine mN ?_;refine tl_ 7 ?_;refine mF ?_;obtain⟨-,HZx,HBx⟩:=hH;go_wp2_with (refine store_blk rfl 36 (.tmp 2) (.tmp 10) rr (w.heap.size+1) .i64 [powF 4 s,powF 4 s2] rr rr HZx.out rfl kk ?_;intro w4 hB4 hg4);have hload:=hB4.loads underlying36 rfl kk;refine bodyPost_ret (v:=.agg (ints .i64 [powF 4 s,powF 4 s2]).toArray) (by simp[results,results36,asAddr,Act.put,hload]) rfl ⟨⟨_,_,rfl,pub_gen s HK.out.1,pub_gen s2 HK2.out.1⟩,(HB1.out.trans (HBx.out.mono HB1.out.size)).grown hg4 (HB1.out.trans (HBx.out.mono HB1.out.size)).size (fun k hk=>by cases hk;omega)⟩
theorem areKeys_f(x:CmP)(w:World)(hx:x.tag.length=32):Calls prog 128 #[.agg (cmC x).toArray] w fun r w'=>(∃q,r=.returned (.bool q)/\(q=true->pubB x.s=true/\pubB x.p0=true/\pubB x.p1=true/\pubB x.p2=true))/\Bl w w':=by
 obtain⟨w1,hW⟩:=ex_ (w.alloc (.cells (cmC x).toArray 130));have HB:Hid (Bl w w1):=by rw[hW];exact b0_
 have HC:Cel w1 w.heap.size 130 (cmC x):=by rw[hW];exact Cel.new _ rfl rfl
 have c4:w1.cell? ⟨w.heap.size,4,none⟩=some (.int .i64 x.s):=(HC.cell 4).trans rfl;have c5:w1.cell? ⟨w.heap.size,5,none⟩=some (.int .i64 x.p0):=(HC.cell 5).trans rfl;have c6:w1.cell? ⟨w.heap.size,6,none⟩=some (.int .i64 x.p1):=(HC.cell 6).trans rfl;have c7:w1.cell? ⟨w.heap.size,7,none⟩=some (.int .i64 x.p2):=(HC.cell 7).trans rfl;have HW:=hd_ hW;clear hW HC hx;go_enter func128,ntmps128
 go_wp2_with ((change wpList _ _ _ _ _ (w.alloc (.cells (cmC x).toArray 130)));rw[<-HW.out]);refine(pIs_any _ _).mono ?_;rintro _ _ ⟨rfl,rfl⟩;obtain⟨q0,hq0⟩:∃q,pubB x.s=q:=⟨_,rfl⟩;rw[hq0];have HQ0:=hd_ hq0;clear hq0
 cases q0 with
 | false=>
  go_wp2_with fail;go_ret;exact⟨⟨_,rfl,by simp⟩,HB.out⟩
 | true=>
  go_wp2_with fail;refine(pIs_any _ _).mono ?_;rintro _ _ ⟨rfl,rfl⟩;obtain⟨q1,hq1⟩:∃q,pubB x.p0=q:=⟨_,rfl⟩;rw[hq1];have HQ1:=hd_ hq1;clear hq1
  cases q1 with
  | false=>
   go_wp2_with fail;go_ret;exact⟨⟨_,rfl,by simp⟩,HB.out⟩
  | true=>
   go_wp2_with fail;refine(pIs_any _ _).mono ?_;rintro _ _ ⟨rfl,rfl⟩;obtain⟨q2,hq2⟩:∃q,pubB x.p1=q:=⟨_,rfl⟩;rw[hq2];have HQ2:=hd_ hq2;clear hq2
   cases q2 with
   | false=>
    go_wp2_with fail;go_ret;exact⟨⟨_,rfl,by simp⟩,HB.out⟩
   | true=>
    go_wp2_with fail;refine(pIs_any _ _).mono ?_;rintro _ _ ⟨rfl,rfl⟩;obtain⟨q3,hq3⟩:∃q,pubB x.p2=q:=⟨_,rfl⟩;rw[hq3];have HQ3:=hd_ hq3;clear hq3
    cases q3 with
    | false=>
     go_wp2_with fail;go_ret;exact⟨⟨_,rfl,by simp⟩,HB.out⟩
    | true=>
     go_wp2_with fail;go_ret;exact⟨⟨_,rfl,fun _=>⟨HQ0.out,HQ1.out,HQ2.out,HQ3.out⟩⟩,HB.out⟩
end Go.Proofs.YtppjnahcnofokaaGreat.T
