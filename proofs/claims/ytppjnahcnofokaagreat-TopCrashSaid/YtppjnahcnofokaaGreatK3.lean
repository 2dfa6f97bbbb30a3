import Derived.Test.YtppjnahcnofokaaGreatK0
import Derived.Test.YtppjnahcnofokaaGreatK2
set_option maxRecDepth 100000
set_option maxHeartbeats 32000000
set_option linter.unusedSimpArgs false
set_option linter.unusedVariables false
set_option linter.unnecessarySimpa false
namespace Go.Proofs.YtppjnahcnofokaaGreat.T
open Go.RowKit Go.Proofs.YtppjnahcnofokaaGreatW.PrintLast
open Go.Proofs.Tryz
variable{k:IntKind}{a:Act}{b i n B base m fuel D B':Nat}{l ch p t0 q:List Int}{w w' w1 w2:World}{t:TypeId}{P:Int->Int->Prop}{cs:Array Value}{A A':Option Addr}{o oi:Oper}{e s f st fl:Int}{xs:List (List Int×Int×Int×Int)}{ops:Array Oper}{rest l0:List Oper}{v:Value}{r:Option Nat}{rs rs2:List (Option Addr×Nat×Nat×List Int)}{E:Prop}{vs l3:List Value}{ad ai go:List Bool}{N:Act->Prop}{place:Nat->Option (Nat×Nat)}{bad:Bool}{es es':List (Int×List Int)}{T:List TypeId}{ps:List (List Int)}
structure CmP where
 e:Int
 f:Int
 O:Value
 V:Value
 s:Int
 p0:Int
 p1:Int
 p2:Int
 X:Value
 tag:List Int
 E:Int
 S:Int
def cmC(x:CmP):List Value:=[.int .i64 x.e,.int .i64 x.f,x.O,x.V,.int .i64 x.s,.int .i64 x.p0,.int .i64 x.p1,.int .i64 x.p2,x.X]++(ints .u8 x.tag ++ [.int .i64 x.E,.int .i64 x.S])
structure CmOk (w:World) (x:CmP):Prop where
 tag:x.tag.length=32
 ops:∃A n c l,x.O=.slice A n c/\OpsR w A n c l/\n<=4
 votes:∃A n c l,x.V=.slice A n c/\VoteR w A n c l/\n<=8
 boxes:∃A n c,x.X=.slice A n c/\RdL w A n c 300/\n<=30
theorem CmOk.below{x:CmP}(h:CmOk w x)(hb:Bl w w'):CmOk w' x:=by
 obtain⟨h1,⟨A,n,c,l,e1,h2,h3⟩,⟨A4,n4,c4,l4,e4,h5,h6⟩,⟨A7,n7,c7,e7,h8,h9⟩⟩:=h;exact⟨h1,⟨A,n,c,l,e1,h2.below hb,h3⟩,⟨A4,n4,c4,l4,e4,h5.below hb,h6⟩,⟨A7,n7,c7,e7,h8.below hb,h9⟩⟩
theorem cm_len{x:CmP}(h:x.tag.length=32):(cmC x).length=43:=by simp[cmC,ints_len,h]
theorem cm_one{x:CmP}(h:CmOk w x):∀v ∈ cmC x,v.oneCell'=true:=by
 obtain⟨h1,⟨A,n,c,l,e1,h2,h3⟩,⟨A4,n4,c4,l4,e4,h5,h6⟩,⟨A7,n7,c7,e7,h8,h9⟩⟩:=h;intro v hv;simp only[cmC,e1,e4,e7,List.mem_append,List.mem_cons,List.not_mem_nil,or_false,ints,List.mem_map]at hv;rcases hv with(rfl|rfl|rfl|rfl|rfl|rfl|rfl|rfl|rfl)|⟨y,_,rfl⟩|rfl|rfl<;>rfl
theorem info130:(prog.info? 130).map (·.size)=some 43:=by kernel_rfl
theorem cm_hi{x:CmP}(h:x.tag.length=32):(prog.info? 130).map (·.size)=some (cmC x).length:=by rw[cm_len h];exact info130
theorem Cel.cmload{x:CmP}(h:Cel w b 130 (cmC x))(ht:x.tag.length=32):(loadVar 130 ⟨b,0,none⟩).run prog w=.ok (.agg (cmC x).toArray) w:=run_loadVar_mid (P:=prog) _ _ 0 130 (cmC x) _ h.all underlying130 rfl (cm_hi ht)
theorem cm_E{x:CmP}(h:x.tag.length=32):(cmC x)[41]? = some (.int .i64 x.E):=by
 simp[cmC,List.getElem?_append,ints_len,h]
theorem cm_S{x:CmP}(h:x.tag.length=32):(cmC x)[42]? = some (.int .i64 x.S):=by
 simp[cmC,List.getElem?_append,ints_len,h]
theorem rdl_at{c:Nat}(h:RdL w A n c B)(i:Nat)(hi:i<n):∃b o A' n' c' l',A=some ⟨b,o,none⟩/\b<w.heap.size/\w.cell? ⟨b,o+i,none⟩=some (.slice A' n' c')/\Rd w .u8 A' n' c' l'/\n'<=B:=by
 have hcap:=h.cap;obtain⟨b,o,e,hlt,hr⟩:=h.at_ o_;obtain⟨A',n',c',l',h1,h2,h3⟩:=hr i hi;exact⟨b,o,A',n',c',l',e,hlt,h1,h2,h3⟩
theorem body_any(x:CmP)(w:World)(h:CmOk w x):Calls prog 111 #[.agg (cmC x).toArray] w fun r w'=>∃m,m<=12000/\OwnR w m r w'/\Bl w w':=by
 obtain⟨w1,hW⟩:=ex_ (w.alloc (.cells (cmC x).toArray 130));have hb1:=nb_ hW;have HC1:Hid (Cel w1 w.heap.size 130 (cmC x)):=by rw[hW];exact Cel.new _ rfl rfl
 have h1:=h.below hb1;obtain⟨ht,⟨AO,nO,cO,lO,eO,hO,hnO⟩,⟨AV,nV,cV,lV,eV,hV,hnV⟩,⟨AX,nX,cX,eX,hX,hnX⟩⟩:=h1;have HO1:=hd_ hO;have HV1:=hd_ hV;have HX1:=hd_ hX;have EO:=hd_ eO;have EV:=hd_ eV;have EX:=hd_ eX;have HB1:=hd_ hb1;have HW:=hd_ hW;clear hO hV hX eO eV eX hb1 hW h;go_enter func111,ntmps111
 go_wp2_with fail;refine pr_ 0 20 (bt 20 0) fun w1d hw1d=>?_;refine mG ?_;have HC:Hid (Cel w1d w.heap.size 130 (cmC x)):=by rw[<-hw1d,<- HW.out];exact HC1.out.drew
 have HB:Hid (Bl w1 w1d):=by rw[<-hw1d,<- HW.out];exact(Below.refl _ _).drew
 have HO:Hid (OpsR w1d AO nO cO lO):=by rw[<-hw1d,<- HW.out];exact HO1.out.below (Below.refl _ _).drew
 clear hw1d;refine wpAny_of_last (S:=fun w'=>w'.cell? ⟨w.heap.size,0,none⟩=some (.int .i64 x.e)/\w'.cell? ⟨w.heap.size,1,none⟩=some (.int .i64 x.f)/\w'.cell? ⟨w.heap.size,2,none⟩=some (.slice AO nO cO)/\w'.cell? ⟨w.heap.size,3,none⟩=some (.slice AV nV cV)/\Hid (Cel w' w.heap.size 130 (cmC x))/\Hid (Bl w1 w')) (ds:=[16,17,18,19]) _ _ _ _ ?_;have hH:(fun w'=>w'.cell? ⟨w.heap.size,0,none⟩=some (.int .i64 x.e)/\w'.cell? ⟨w.heap.size,1,none⟩=some (.int .i64 x.f)/\w'.cell? ⟨w.heap.size,2,none⟩=some (.slice AO nO cO)/\w'.cell? ⟨w.heap.size,3,none⟩=some (.slice AV nV cV)/\Hid (Cel w' w.heap.size 130 (cmC x))/\Hid (Bl w1 w')) w1d:=⟨(HC.out.cell 0).trans rfl,(HC.out.cell 1).trans rfl,(HC.out.cell 2).trans (by show some x.O=_;rw[EO.out]),(HC.out.cell 3).trans (by show some x.V=_;rw[EV.out]),HC,HB⟩;refine ts_ 0 7 13 (bt 20 127) hH ?_;refine mT6 ?_;refine ts_ 9 2 11 (bt 20 1663) hH ?_;refine mT6 ?_;refine ts_ 12 3 8 (bt 20 30335) hH ?_;refine mT6 ?_;clear hH;refine join_ (σ:=Nat×Option Addr×Nat×Option Addr×Nat×Nat) 4 (bt 20 65535) (fun s=>match s with|(b7,A8,c8,A11,c11,b15)=>[(15,.slice (some ⟨b7,0,none⟩) 3 3),(16,.slice A8 24 c8),(19,.slice A11 (nO*40) c11),(23,.slice (some ⟨b15,0,none⟩) 1 1)]) (fun s w'=>match s with|(b7,A8,c8,A11,c11,b15)=>Hid (Cel w' w.heap.size 130 (cmC x))/\Hid (Bl w1 w')/\Hid (OpsR w' AO nO cO lO)/\Hid (Rd w' .i64 (some ⟨b7,0,none⟩) 3 3 [x.e,x.f,nO])/\Hid (OwnB w' w1.heap.size (.slice A8 24 c8) 24)/\Hid (OwnB w' w1.heap.size (.slice A11 (nO*40) c11) (nO*40))/\Hid (Rd w' .i64 (some ⟨b15,0,none⟩) 1 1 [nV])) ?_ (fun st0=>?_)
 · rintro⟨b7,A8,c8,A11,c11,b15⟩ wc ⟨HC,HB,HO,H7,H8,H11,H15⟩;refine mE ?_;have hH:=trivial;refine tl_ 16 ?_;refine mF ?_;go_wp2_with fail;refine(nums_any _ 1 1 _ _ H15.out dd).mono ?_;rintro _ w6 ⟨⟨A6,c6,rfl,ho6⟩,hb6⟩;have HB6:=tb_ HB hb6;have HC6:=hd_ (HC.out.below hb6 HC.out.lt);obtain⟨l8,hl8⟩:=(H8.out.below hb6).rd;obtain⟨l11,hl11⟩:=(H11.out.below hb6).rd;obtain⟨l6,hl6⟩:=ho6.rd;obtain⟨W7,hW7⟩:=ex_ (w6.alloc (.cells #[.slice A8 24 c8,.slice A11 (nO*40) c11,.slice A6 (1*8) c6] 31))
   have HRR:Hid (RdR W7 (some ⟨w6.heap.size,0,none⟩) 3 3 60000 [(A8,24,c8,l8),(A11,nO*40,c11,l11),(A6,1*8,c6,l6)]):=by
    rw[hW7]
    exact rdr_new w6 [(A8,24,c8,l8),(A11,nO*40,c11,l11),(A6,1*8,c6,l6)] _ 3 rfl rfl (fun r hr=>by
     simp only[List.mem_cons,List.not_mem_nil,or_false]at hr
     rcases hr with rfl|rfl|rfl
     · exact⟨hl8,by show 24<=_;omega⟩
     · exact⟨hl11,by show nO*40<=_;omega⟩
     · exact⟨hl6,by show 1*8<=_;omega⟩)
   (have HB7:Hid (Bl w1 W7):=by rw[hW7];exact HB6.out.alloc HB6.out.size _);(have HC7:Hid (Cel W7 w.heap.size 130 (cmC x)):=by rw[hW7];exact HC6.out.alloc _);have HW7:=hd_ hW7;clear hb6 ho6 hl8 hl11 hl6 hW7 hH;go_wp2_with ((change Calls _ _ _ (w6.alloc (.cells #[.slice A8 24 c8,.slice A11 (nO*40) c11,.slice A6 (1*8) c6] 31)) _);fail);rw[<-HW7.out];refine(concat_any _ 3 3 60000 _ W7 HRR.out dd dd).mono ?_;rintro _ w8 ⟨⟨A9,c9,rfl,ho9⟩,hb8⟩;have HB8:=tb_ HB7 hb8;have HC8:=hd_ (HC7.out.below hb8 HC7.out.lt);have HO9:=hd_ (own_base ho9 HB7.out.size);obtain⟨m9,hm9⟩:=ex_ (lens [(A8,24,c8,l8),(A11,nO*40,c11,l11),(A6,1*8,c6,l6)]);(have hm9b:m9<=200:=by rw[hm9];simp only[lens,List.map_cons,List.map_nil,List.sum_cons,List.sum_nil];omega);rw[<-hm9]at HO9 ⊢;have hV0:w8.cell? ⟨w.heap.size,3,none⟩=some (.slice AV nV cV):=(HC8.out.cell 3).trans (by show some x.V=_;rw[EV.out]);clear hb8 ho9 hm9;go_wp2_with fail;clear hV0;(go_loopw [3,30] (fun vx v wr=>∃(i m:Nat) (A3:Option Addr) (c3:Nat),v=.int .i64 i/\vx=.slice A3 m c3/\i<=nV/\m<=200+i*24/\Hid (OwnB wr w1.heap.size (.slice A3 m c3) m)/\Hid (Bl w1 wr)/\Hid (Cel wr w.heap.size 130 (cmC x))) (fun _ v _=>nV-(intOf v).toNat));(case atStart=>exact⟨0,m9,A9,c9,rfl,rfl,Nat.zero_le _,by omega,HO9,HB8,HC8⟩)
   case round=>
    clear HB HC HO H7 H8 H11 H15 HB6 HC6 HB7 HC7 HB8 HC8 HO9 HRR HW7
    obtain⟨wa,rfl⟩:=ex_ (wr)
    obtain⟨i,m,A3,c3,rfl,rfl,hi,hm,HO,HB,HC⟩:=hrel
    by_cases hlt:i<nV
    · obtain⟨b,o,y0,y1,y2,rfl,_,k0,k1,k2⟩:=(HV1.out.below HB.out).at i hlt;have hcap:=HV1.out.cap;obtain⟨W4,hW4⟩:=ex_ ((wa.alloc (.cells #[.int .i64 y0,.int .i64 y1,.int .i64 y2] 118)).alloc (.cells #[.int .i64 y0,.int .i64 y1,.int .i64 y2] 3));(have hb4:Bl wa W4:=by rw[hW4];exact bal b0_);have HB4:=tb_ HB hb4;have HC4:=hd_ (HC.out.below hb4 HC.out.lt);have HO4:=hd_ (HO.out.below hb4);(have HR4:Hid (Rd W4 .i64 (some ⟨wa.heap.size+1,0,none⟩) 3 3 [y0,y1,y2]):=by rw[hW4];exact rd_lit _ .i64 _ _ _ _ _ rfl rfl s_);have HW4:=hd_ hW4;clear hW4 hb4;go_wp2_with ((change Calls _ _ _ ((wa.alloc (.cells #[.int .i64 y0,.int .i64 y1,.int .i64 y2] 118)).alloc (.cells #[.int .i64 y0,.int .i64 y1,.int .i64 y2] 3)) _);fail);rw[<-HW4.out];refine(nums_any _ 3 3 _ _ HR4.out dd).mono ?_;rintro _ w5 ⟨⟨A5,c5,rfl,ho5⟩,hb5⟩;have HB5:=tb_ HB4 hb5;have HC5:=hd_ (HC4.out.below hb5 HC4.out.lt);obtain⟨l5,hl5⟩:=ho5.rd;have HR5:=hd_ hl5;obtain⟨l3,hl3,hO3⟩:=HO4.out.below hb5;have HO3:=hd_ hO3;have HL3:=hd_ hl3;clear hb5 ho5 hl5 hO3 hl3 k0 k1 k2 HW4 HR4;go_wp2_with (at_builtin;refine append_rg rfl (.tmp 34) (.tmp 44) 31 rfl w1.heap.size 5 1 1 et31 (.slice A3 m c3) m (ints .u8 l3) rfl HO3.out A5 (3*8) c5 (ints .u8 l5) rfl HR5.out.rg ints_one o_ (by unfold maxLen;omega) HB5.out.size ?_;intro A7 c7 w7 hown7 hgrow hb7 hat);have HO7:Hid (OwnB w7 w1.heap.size (.slice A7 (m+3*8) c7) (m+3*8)):=OwnB.app HL3.out HR5.out.len hown7;have HB7:=hd_ (HB5.out.trans hb7);have HC7:=hd_ (HC5.out.below hb7 (by have:=HC1.out.lt;exact this));clear hown7 hgrow hb7 hat;go_wp2_with fail;go_roundw;(case rel=>exact⟨i+1,m+3*8,A7,c7,by go_num,rfl,by omega,by omega,HO7,HB7,HC7⟩);case measure=>simp[intOf];omega
    · (obtain rfl:i=nV:=by omega);have d4:wa.cell? ⟨w.heap.size,4,none⟩=some (.int .i64 x.s):=(HC.out.cell 4).trans rfl;have d5:wa.cell? ⟨w.heap.size,5,none⟩=some (.int .i64 x.p0):=(HC.out.cell 5).trans rfl;have d6:wa.cell? ⟨w.heap.size,6,none⟩=some (.int .i64 x.p1):=(HC.out.cell 6).trans rfl;have d7:wa.cell? ⟨w.heap.size,7,none⟩=some (.int .i64 x.p2):=(HC.out.cell 7).trans rfl;have d8:wa.cell? ⟨w.heap.size,8,none⟩=some (.slice AX nX cX):=(HC.out.cell 8).trans (by show some x.X=_;rw[EX.out]);obtain⟨W4,hW4⟩:=ex_ (wa.alloc (.cells #[.int .i64 x.s,.int .i64 x.p0,.int .i64 x.p1,.int .i64 x.p2,.int .i64 nX] 3));have hb4:=nb_ hW4;have HB4:=tb_ HB hb4;have HC4:=hd_ (HC.out.below hb4 HC.out.lt);have HO4:=hd_ (HO.out.below hb4);(have HR4:Hid (Rd W4 .i64 (some ⟨wa.heap.size,0,none⟩) 5 5 [x.s,x.p0,x.p1,x.p2,nX]):=by rw[hW4];exact rd_lit _ .i64 _ _ _ _ _ rfl rfl rfl);have HW4:=hd_ hW4;clear hW4 hb4;go_wp2_with ((change Calls _ _ _ (wa.alloc (.cells #[.int .i64 x.s,.int .i64 x.p0,.int .i64 x.p1,.int .i64 x.p2,.int .i64 nX] 3)) _);fail);rw[<-HW4.out];refine(nums_any _ 5 5 _ _ HR4.out dd).mono ?_;rintro _ w5 ⟨⟨A5,c5,rfl,ho5⟩,hb5⟩;have HB5:=tb_ HB4 hb5;have HC5:=hd_ (HC4.out.below hb5 HC4.out.lt);obtain⟨l5,hl5⟩:=ho5.rd;have HR5:=hd_ hl5;obtain⟨l3,hl3,hO3⟩:=HO4.out.below hb5;have HO3:=hd_ hO3;have HL3:=hd_ hl3;clear hb5 ho5 hl5 hO3 hl3 HW4 HR4 d4 d5 d6 d7 d8
      go_wp2_with (at_builtin;refine append_rg rfl (.tmp 47) (.tmp 63) 31 rfl w1.heap.size 5 1 1 et31 (.slice A3 m c3) m (ints .u8 l3) rfl HO3.out A5 (5*8) c5 (ints .u8 l5) rfl HR5.out.rg ints_one o_ (by unfold maxLen;omega) HB5.out.size ?_
                   intro A7 c7 w7 hown7 hgrow hb7 hat
                   have HO7:Hid (OwnB w7 w1.heap.size (.slice A7 (m+5*8) c7) (m+5*8)):=OwnB.app HL3.out HR5.out.len hown7
                   have HB7:=hd_ (HB5.out.trans hb7)
                   have HC7:=hd_ (HC5.out.below hb7 (by have:=HC1.out.lt;exact this))
                   have d8:w7.cell? ⟨w.heap.size,8,none⟩=some (.slice AX nX cX):=(HC7.out.cell 8).trans (by show some x.X=_;rw[EX.out])
                   clear hown7 hgrow hb7 hat)
      (have hm7:m+5*8<=500:=by omega);obtain⟨m7,hm7e⟩:=ex_ (m+5*8);rw[<-hm7e]at hm7 HO7 ⊢;clear d8 hm7e;(go_loopw [3,68] (fun vx v wr=>∃(j q:Nat) (A3:Option Addr) (c3:Nat),v=.int .i64 j/\vx=.slice A3 q c3/\j<=nX/\q<=500+j*308/\Hid (OwnB wr w1.heap.size (.slice A3 q c3) q)/\Hid (Bl w1 wr)) (fun _ v _=>nX-(intOf v).toNat));(case atStart=>exact⟨0,m7,A7,c7,rfl,rfl,Nat.zero_le _,by omega,HO7,HB7⟩)
      case round=>
       clear HB HC HO HB5 HC5 HO3 HL3 HR5 HB7 HC7 HO7 HB4 HC4 HO4
       obtain⟨wb,rfl⟩:=ex_ (wr)
       obtain⟨j,q,A3,c3,rfl,rfl,hj,hq,HO,HB⟩:=hrel
       by_cases hlj:j<nX
       · obtain⟨b,o,A',n',c',l',rfl,hbl,k1,hrd,hn'⟩:=rdl_at HX1.out j hlj;have k0:wb.cell? ⟨b,o+j,none⟩=some (.slice A' n' c'):=(HB.out.cell (p:=⟨b,o+j,none⟩) hbl).trans k1;have HD:=hd_ hrd;have hcap:=HX1.out.cap;obtain⟨W4,hW4⟩:=ex_ (wb.alloc (.cells #[.int .i64 n'] 3));have hb4:=nb_ hW4;have HB4:=tb_ HB hb4;have HO4:=hd_ (HO.out.below hb4);(have HR4:Hid (Rd W4 .i64 (some ⟨wb.heap.size,0,none⟩) 1 1 [n']):=by rw[hW4];exact rd_lit _ .i64 _ _ _ _ _ rfl rfl rfl);have HW4:=hd_ hW4;clear hW4 hb4 hrd k1;go_wp2_with ((change Calls _ _ _ (wb.alloc (.cells #[.int .i64 n'] 3)) _);fail);rw[<-HW4.out];refine(nums_any _ 1 1 _ _ HR4.out dd).mono ?_;rintro _ w5 ⟨⟨A5,c5,rfl,ho5⟩,hb5⟩;have HB5:=tb_ HB4 hb5;obtain⟨l5,hl5⟩:=ho5.rd;have HR5:=hd_ hl5;obtain⟨l3,hl3,hO3⟩:=HO4.out.below hb5;have HO3:=hd_ hO3;have HL3:=hd_ hl3;clear hb5 ho5 hl5 hO3 hl3 k0 HW4 HR4
         go_wp2_with (first
          | (at_builtin;refine append_rg rfl (.tmp 72) (.tmp 76) 31 rfl w1.heap.size 5 1 1 et31 (.slice A3 q c3) q (ints .u8 l3) rfl HO3.out A5 (1*8) c5 (ints .u8 l5) rfl HR5.out.rg ints_one o_ (by unfold maxLen;omega) HB5.out.size ?_;intro A7 c7 w7 hown7 hgrow hb7 hat;have HB7:=hd_ (HB5.out.trans hb7);have HD7:=hd_ (HD.out.below HB7.out);have HO7:=hd_ hown7;clear hown7 hgrow hb7 hat)
          | (at_builtin;refine append_rg rfl (.tmp 77) (.tmp 78) 31 rfl w1.heap.size 5 1 1 et31 (.slice A7 (q+1*8) c7) (q+1*8) (ints .u8 l3++ints .u8 l5) rfl HO7.out A' n' c' (ints .u8 l') rfl HD7.out.rg ints_one o_ (by unfold maxLen;omega) HB7.out.size ?_;intro A9 c9 w9 hown9 hgrow9 hb9 hat9;have HB9:=hd_ (HB7.out.trans hb9);have HO9:Hid (OwnB w9 w1.heap.size (.slice A9 (q+1*8+n') c9) (q+1*8+n')):=OwnB.app (l:=l3++l5) (r:=l') (by rw[List.length_append,HL3.out,HR5.out.len]) HD7.out.len (by unfold ints;rw[List.map_append];exact hown9);clear hown9 hgrow9 hb9 hat9))
         go_roundw;(case rel=>exact⟨j+1,q+1*8+n',A9,c9,by go_num,rfl,by omega,by omega,HO9,HB9⟩);case measure=>simp[intOf];omega
       · go_wp2_with fail;go_ret;exact⟨q,by omega,⟨A3,c3,rfl,own_base HO.out (by have:=HB1.out.size;exact this)⟩,HB1.out.trans (HB.out.mono HB1.out.size)⟩
 refine join_ (σ:=Nat×Option Addr×Nat×Option Addr×Nat) 5 (bt 20 32767) (fun s=>match s with|(b7,A8,c8,A11,c11)=>[(15,.slice (some ⟨b7,0,none⟩) 3 3),(16,.slice A8 24 c8),(19,.slice A11 (nO*40) c11)]) (fun s w'=>match s with|(b7,A8,c8,A11,c11)=>Hid (Cel w' w.heap.size 130 (cmC x))/\Hid (Bl w1 w')/\Hid (OpsR w' AO nO cO lO)/\Hid (Rd w' .i64 (some ⟨b7,0,none⟩) 3 3 [x.e,x.f,nO])/\Hid (OwnB w' w1.heap.size (.slice A8 24 c8) 24)/\Hid (OwnB w' w1.heap.size (.slice A11 (nO*40) c11) (nO*40))) ?_ (fun st1=>?_)
 · rintro⟨b7,A8,c8,A11,c11⟩ wc ⟨HC,HB,HO,H7,H8,H11⟩;refine mE ?_;have hH:=trivial;refine one_ (i:=15) (N:=some 23) (bt 20 65535) rfl rfl kk dd (fun K hK=>?_);obtain⟨wn,hwn⟩:=ex_ (wc.alloc (.cells #[.int .i64 nV] 3));refine value_ rr rfl (v:=.slice (some ⟨wc.heap.size,0,none⟩) 1 1) (w1:=wn) (by rw[hwn];go_simp) ?_;have hbn:=nb_ hwn;obtain⟨b15,hb15⟩:=ex_ (wc.heap.size);(have H15:Hid (Rd wn .i64 (some ⟨b15,0,none⟩) 1 1 [nV]):=by rw[hwn,hb15];exact rd_lit _ .i64 _ _ _ _ _ rfl rfl rfl);rw[<-hb15];clear hwn hb15;have HCn:=hd_ (HC.out.below hbn HC.out.lt);have HBn:=tb_ HB hbn;have HOn:=hd_ (HO.out.below hbn);have H7n:=hd_ (H7.out.below hbn);have H8n:=hd_ (H8.out.below hbn);have H11n:=hd_ (H11.out.below hbn);refine hK.out _ _ (⟨(HCn.out.cell 0).trans rfl,(HCn.out.cell 1).trans rfl,(HCn.out.cell 2).trans (by show some x.O=_;rw[EO.out]),(HCn.out.cell 3).trans (by show some x.V=_;rw[EV.out]),HCn,HBn⟩) (fun hH=>?_);refine mN ?_;exact mH (st0 (b7,A8,c8,A11,c11,b15) wn ⟨HCn,HBn,HOn,H7n,H8n,H11n,H15⟩)
 refine join_ (σ:=Nat×Option Addr×Nat×Nat) 5 (bt 20 63487) (fun s=>match s with|(b7,A8,c8,b15)=>[(15,.slice (some ⟨b7,0,none⟩) 3 3),(16,.slice A8 24 c8),(23,.slice (some ⟨b15,0,none⟩) 1 1)]) (fun s w'=>match s with|(b7,A8,c8,b15)=>Hid (Cel w' w.heap.size 130 (cmC x))/\Hid (Bl w1 w')/\Hid (OpsR w' AO nO cO lO)/\Hid (Rd w' .i64 (some ⟨b7,0,none⟩) 3 3 [x.e,x.f,nO])/\Hid (OwnB w' w1.heap.size (.slice A8 24 c8) 24)/\Hid (Rd w' .i64 (some ⟨b15,0,none⟩) 1 1 [nV])) ?_ (fun st2=>?_)
 · rintro⟨b7,A8,c8,b15⟩ wc ⟨HC,HB,HO,H7,H8,H15⟩;refine mE ?_;have hH:=trivial;refine one_ (i:=11) (N:=some 19) (bt 20 65535) rfl rfl kk dd (fun K hK=>?_);refine goes_ func98 kk rfl #[.slice AO nO cO] rr rfl rfl mL ?_;refine(vOps_any _ nO cO lO _ HO.out o_).mono ?_;rintro _ wn ⟨⟨A11,c11,rfl,ho11⟩,hbn⟩;refine⟨_,rfl,?_⟩;have H11:Hid (OwnB wn w1.heap.size (.slice A11 (nO*40) c11) (nO*40)):=own_base ho11 HB.out.size;have HCn:=hd_ (HC.out.below hbn HC.out.lt);have HBn:=tb_ HB hbn;have HOn:=hd_ (HO.out.below hbn);have H7n:=hd_ (H7.out.below hbn);have H8n:=hd_ (H8.out.below hbn);have H15n:=hd_ (H15.out.below hbn);refine hK.out _ _ (⟨(HCn.out.cell 0).trans rfl,(HCn.out.cell 1).trans rfl,(HCn.out.cell 2).trans (by show some x.O=_;rw[EO.out]),(HCn.out.cell 3).trans (by show some x.V=_;rw[EV.out]),HCn,HBn⟩) (fun hH=>?_);refine mN ?_;exact mH (st0 (b7,A8,c8,A11,c11,b15) wn ⟨HCn,HBn,HOn,H7n,H8n,H11,H15n⟩)
 refine join_ (σ:=Nat×Option Addr×Nat) 6 (bt 20 30719) (fun s=>match s with|(b7,A8,c8)=>[(15,.slice (some ⟨b7,0,none⟩) 3 3),(16,.slice A8 24 c8)]) (fun s w'=>match s with|(b7,A8,c8)=>Hid (Cel w' w.heap.size 130 (cmC x))/\Hid (Bl w1 w')/\Hid (OpsR w' AO nO cO lO)/\Hid (Rd w' .i64 (some ⟨b7,0,none⟩) 3 3 [x.e,x.f,nO])/\Hid (OwnB w' w1.heap.size (.slice A8 24 c8) 24)) ?_ (fun st3=>?_)
 · rintro⟨b7,A8,c8⟩ wc ⟨HC,HB,HO,H7,H8⟩;refine mE ?_;have hH:=trivial;refine two_ (i:=11) (j:=15) (Ni:=some 19) (Nj:=some 23) (bt 20 32767) (bt 20 63487) rfl rfl rfl rfl kk dd dd (fun K hK=>?_) (fun K hK=>?_);(· refine goes_ func98 kk rfl #[.slice AO nO cO] rr rfl rfl mL ?_;refine(vOps_any _ nO cO lO _ HO.out o_).mono ?_;rintro _ wn ⟨⟨A11,c11,rfl,ho11⟩,hbn⟩;refine⟨_,rfl,?_⟩;have H11:Hid (OwnB wn w1.heap.size (.slice A11 (nO*40) c11) (nO*40)):=own_base ho11 HB.out.size;have HCn:=hd_ (HC.out.below hbn HC.out.lt);have HBn:=tb_ HB hbn;have HOn:=hd_ (HO.out.below hbn);have H7n:=hd_ (H7.out.below hbn);have H8n:=hd_ (H8.out.below hbn);refine hK.out _ _ (⟨(HCn.out.cell 0).trans rfl,(HCn.out.cell 1).trans rfl,(HCn.out.cell 2).trans (by show some x.O=_;rw[EO.out]),(HCn.out.cell 3).trans (by show some x.V=_;rw[EV.out]),HCn,HBn⟩) (fun hH=>?_);refine mN ?_;exact mH (st1 (b7,A8,c8,A11,c11) wn ⟨HCn,HBn,HOn,H7n,H8n,H11⟩));obtain⟨wn,hwn⟩:=ex_ (wc.alloc (.cells #[.int .i64 nV] 3));refine value_ rr rfl (v:=.slice (some ⟨wc.heap.size,0,none⟩) 1 1) (w1:=wn) (by rw[hwn];go_simp) ?_;have hbn:=nb_ hwn;obtain⟨b15,hb15⟩:=ex_ (wc.heap.size);(have H15:Hid (Rd wn .i64 (some ⟨b15,0,none⟩) 1 1 [nV]):=by rw[hwn,hb15];exact rd_lit _ .i64 _ _ _ _ _ rfl rfl rfl);rw[<-hb15];clear hwn hb15;have HCn:=hd_ (HC.out.below hbn HC.out.lt);have HBn:=tb_ HB hbn;have HOn:=hd_ (HO.out.below hbn);have H7n:=hd_ (H7.out.below hbn);have H8n:=hd_ (H8.out.below hbn);refine hK.out _ _ (⟨(HCn.out.cell 0).trans rfl,(HCn.out.cell 1).trans rfl,(HCn.out.cell 2).trans (by show some x.O=_;rw[EO.out]),(HCn.out.cell 3).trans (by show some x.V=_;rw[EV.out]),HCn,HBn⟩) (fun hH=>?_);refine mN ?_;exact mH (st2 (b7,A8,c8,b15) wn ⟨HCn,HBn,HOn,H7n,H8n,H15⟩)
 refine join_ (σ:=Nat×Nat) 6 (bt 20 63231) (fun s=>match s with|(b7,b15)=>[(15,.slice (some ⟨b7,0,none⟩) 3 3),(23,.slice (some ⟨b15,0,none⟩) 1 1)]) (fun s w'=>match s with|(b7,b15)=>Hid (Cel w' w.heap.size 130 (cmC x))/\Hid (Bl w1 w')/\Hid (OpsR w' AO nO cO lO)/\Hid (Rd w' .i64 (some ⟨b7,0,none⟩) 3 3 [x.e,x.f,nO])/\Hid (Rd w' .i64 (some ⟨b15,0,none⟩) 1 1 [nV])) ?_ (fun st4=>?_)
 · rintro⟨b7,b15⟩ wc ⟨HC,HB,HO,H7,H15⟩;refine mE ?_;have hH:=trivial;refine one_ (i:=8) (N:=some 16) (bt 20 63487) rfl rfl kk dd (fun K hK=>?_);refine goes_ func112 kk rfl #[.slice (some ⟨b7,0,none⟩) 3 3] rr rfl rfl mL ?_;refine(nums_any _ 3 3 _ _ H7.out dd).mono ?_;rintro _ wn ⟨⟨A8,c8,rfl,ho8⟩,hbn⟩;refine⟨_,rfl,?_⟩;have H8:Hid (OwnB wn w1.heap.size (.slice A8 24 c8) 24):=own_base ho8 HB.out.size;have HCn:=hd_ (HC.out.below hbn HC.out.lt);have HBn:=tb_ HB hbn;have HOn:=hd_ (HO.out.below hbn);have H7n:=hd_ (H7.out.below hbn);have H15n:=hd_ (H15.out.below hbn);refine hK.out _ _ (⟨(HCn.out.cell 0).trans rfl,(HCn.out.cell 1).trans rfl,(HCn.out.cell 2).trans (by show some x.O=_;rw[EO.out]),(HCn.out.cell 3).trans (by show some x.V=_;rw[EV.out]),HCn,HBn⟩) (fun hH=>?_);refine mN ?_;exact mH (st2 (b7,A8,c8,b15) wn ⟨HCn,HBn,HOn,H7n,H8,H15n⟩)
 refine join_ (σ:=Nat) 7 (bt 20 30463) (fun s=>match s with|b7=>[(15,.slice (some ⟨b7,0,none⟩) 3 3)]) (fun s w'=>match s with|b7=>Hid (Cel w' w.heap.size 130 (cmC x))/\Hid (Bl w1 w')/\Hid (OpsR w' AO nO cO lO)/\Hid (Rd w' .i64 (some ⟨b7,0,none⟩) 3 3 [x.e,x.f,nO])) ?_ (fun st5=>?_)
 · rintro b7 wc ⟨HC,HB,HO,H7⟩;refine mE ?_;have hH:=trivial;refine two_ (i:=8) (j:=15) (Ni:=some 16) (Nj:=some 23) (bt 20 30719) (bt 20 63231) rfl rfl rfl rfl kk dd dd (fun K hK=>?_) (fun K hK=>?_);(· refine goes_ func112 kk rfl #[.slice (some ⟨b7,0,none⟩) 3 3] rr rfl rfl mL ?_;refine(nums_any _ 3 3 _ _ H7.out dd).mono ?_;rintro _ wn ⟨⟨A8,c8,rfl,ho8⟩,hbn⟩;refine⟨_,rfl,?_⟩;have H8:Hid (OwnB wn w1.heap.size (.slice A8 24 c8) 24):=own_base ho8 HB.out.size;have HCn:=hd_ (HC.out.below hbn HC.out.lt);have HBn:=tb_ HB hbn;have HOn:=hd_ (HO.out.below hbn);have H7n:=hd_ (H7.out.below hbn);refine hK.out _ _ (⟨(HCn.out.cell 0).trans rfl,(HCn.out.cell 1).trans rfl,(HCn.out.cell 2).trans (by show some x.O=_;rw[EO.out]),(HCn.out.cell 3).trans (by show some x.V=_;rw[EV.out]),HCn,HBn⟩) (fun hH=>?_);refine mN ?_;exact mH (st3 (b7,A8,c8) wn ⟨HCn,HBn,HOn,H7n,H8⟩));obtain⟨wn,hwn⟩:=ex_ (wc.alloc (.cells #[.int .i64 nV] 3));refine value_ rr rfl (v:=.slice (some ⟨wc.heap.size,0,none⟩) 1 1) (w1:=wn) (by rw[hwn];go_simp) ?_;have hbn:=nb_ hwn;obtain⟨b15,hb15⟩:=ex_ (wc.heap.size);(have H15:Hid (Rd wn .i64 (some ⟨b15,0,none⟩) 1 1 [nV]):=by rw[hwn,hb15];exact rd_lit _ .i64 _ _ _ _ _ rfl rfl rfl);rw[<-hb15];clear hwn hb15;have HCn:=hd_ (HC.out.below hbn HC.out.lt);have HBn:=tb_ HB hbn;have HOn:=hd_ (HO.out.below hbn);have H7n:=hd_ (H7.out.below hbn);refine hK.out _ _ (⟨(HCn.out.cell 0).trans rfl,(HCn.out.cell 1).trans rfl,(HCn.out.cell 2).trans (by show some x.O=_;rw[EO.out]),(HCn.out.cell 3).trans (by show some x.V=_;rw[EV.out]),HCn,HBn⟩) (fun hH=>?_);refine mN ?_;exact mH (st4 (b7,b15) wn ⟨HCn,HBn,HOn,H7n,H15⟩)
 refine join_ (σ:=Nat) 7 (bt 20 63103) (fun s=>match s with|b15=>[(23,.slice (some ⟨b15,0,none⟩) 1 1)]) (fun s w'=>match s with|b15=>Hid (Cel w' w.heap.size 130 (cmC x))/\Hid (Bl w1 w')/\Hid (OpsR w' AO nO cO lO)/\Hid (Rd w' .i64 (some ⟨b15,0,none⟩) 1 1 [nV])) ?_ (fun st6=>?_)
 · rintro b15 wc ⟨HC,HB,HO,H15⟩;refine mE ?_;have hH:=trivial;refine one_ (i:=7) (N:=some 15) (bt 20 63231) rfl rfl kk dd (fun K hK=>?_);obtain⟨wn,hwn⟩:=ex_ (wc.alloc (.cells #[.int .i64 x.e,.int .i64 x.f,.int .i64 nO] 3));refine value_ rr rfl (v:=.slice (some ⟨wc.heap.size,0,none⟩) 3 3) (w1:=wn) (by rw[hwn];go_simp) ?_;have hbn:=nb_ hwn;obtain⟨b7,hb7⟩:=ex_ (wc.heap.size);(have H7:Hid (Rd wn .i64 (some ⟨b7,0,none⟩) 3 3 [x.e,x.f,nO]):=by rw[hwn,hb7];exact rd_lit _ .i64 _ _ _ _ _ rfl rfl rfl);rw[<-hb7];clear hwn hb7;have HCn:=hd_ (HC.out.below hbn HC.out.lt);have HBn:=tb_ HB hbn;have HOn:=hd_ (HO.out.below hbn);have H15n:=hd_ (H15.out.below hbn);refine hK.out _ _ (⟨(HCn.out.cell 0).trans rfl,(HCn.out.cell 1).trans rfl,(HCn.out.cell 2).trans (by show some x.O=_;rw[EO.out]),(HCn.out.cell 3).trans (by show some x.V=_;rw[EV.out]),HCn,HBn⟩) (fun hH=>?_);refine mN ?_;exact mH (st4 (b7,b15) wn ⟨HCn,HBn,HOn,H7,H15n⟩)
 have hH:=trivial;refine two_ (i:=7) (j:=15) (Ni:=some 15) (Nj:=some 23) (bt 20 30463) (bt 20 63103) rfl rfl rfl rfl kk dd dd (fun K hK=>?_) (fun K hK=>?_)
 · obtain⟨wn,hwn⟩:=ex_ (w1d.alloc (.cells #[.int .i64 x.e,.int .i64 x.f,.int .i64 nO] 3));refine value_ rr rfl (v:=.slice (some ⟨w1d.heap.size,0,none⟩) 3 3) (w1:=wn) (by rw[hwn];go_simp) ?_;have hbn:=nb_ hwn;obtain⟨b7,hb7⟩:=ex_ (w1d.heap.size);(have H7:Hid (Rd wn .i64 (some ⟨b7,0,none⟩) 3 3 [x.e,x.f,nO]):=by rw[hwn,hb7];exact rd_lit _ .i64 _ _ _ _ _ rfl rfl rfl);rw[<-hb7];clear hwn hb7;have HCn:=hd_ (HC.out.below hbn HC.out.lt);have HBn:=tb_ HB hbn;have HOn:=hd_ (HO.out.below hbn);refine hK.out _ _ (⟨(HCn.out.cell 0).trans rfl,(HCn.out.cell 1).trans rfl,(HCn.out.cell 2).trans (by show some x.O=_;rw[EO.out]),(HCn.out.cell 3).trans (by show some x.V=_;rw[EV.out]),HCn,HBn⟩) (fun hH=>?_);refine mN ?_;exact mH (st5 b7 wn ⟨HCn,HBn,HOn,H7⟩)
 obtain⟨wn,hwn⟩:=ex_ (w1d.alloc (.cells #[.int .i64 nV] 3));refine value_ rr rfl (v:=.slice (some ⟨w1d.heap.size,0,none⟩) 1 1) (w1:=wn) (by rw[hwn];go_simp) ?_;have hbn:=nb_ hwn;obtain⟨b15,hb15⟩:=ex_ (w1d.heap.size);have H15:Hid (Rd wn .i64 (some ⟨b15,0,none⟩) 1 1 [nV]):=by rw[hwn,hb15];exact rd_lit _ .i64 _ _ _ _ _ rfl rfl rfl
 rw[<-hb15];clear hwn hb15;have HCn:=hd_ (HC.out.below hbn HC.out.lt);have HBn:=tb_ HB hbn;have HOn:=hd_ (HO.out.below hbn);refine hK.out _ _ (⟨(HCn.out.cell 0).trans rfl,(HCn.out.cell 1).trans rfl,(HCn.out.cell 2).trans (by show some x.O=_;rw[EO.out]),(HCn.out.cell 3).trans (by show some x.V=_;rw[EV.out]),HCn,HBn⟩) (fun hH=>?_);refine mN ?_;exact mH (st6 b15 wn ⟨HCn,HBn,HOn,H15⟩)
end Go.Proofs.YtppjnahcnofokaaGreat.T
namespace Go.Proofs.YtppjnahcnofokaaGreat.T
open Go.RowKit Go.Proofs.YtppjnahcnofokaaGreatW.PrintLast
open Go.Proofs.Tryz
variable{k:IntKind}{a:Act}{b i n B base m fuel D B':Nat}{l ch p t0 q:List Int}{w w' w1 w2:World}{t:TypeId}{P:Int->Int->Prop}{cs:Array Value}{A A':Option Addr}{o oi:Oper}{e s f st fl:Int}{xs:List (List Int×Int×Int×Int)}{ops:Array Oper}{rest l0:List Oper}{v:Value}{r:Option Nat}{rs rs2:List (Option Addr×Nat×Nat×List Int)}{E:Prop}{vs l3:List Value}{ad ai go:List Bool}{N:Act->Prop}{place:Nat->Option (Nat×Nat)}{bad:Bool}{es es':List (Int×List Int)}{T:List TypeId}{ps:List (List Int)}
theorem cm_path(x:CmP):cmC x=[.int .i64 x.e,.int .i64 x.f,x.O,x.V,.int .i64 x.s]++ints .i64 [x.p0,x.p1,x.p2]++([x.X]++(ints .u8 x.tag ++ [.int .i64 x.E,.int .i64 x.S])):=rfl
theorem cm_tag(x:CmP):cmC x=[.int .i64 x.e,.int .i64 x.f,x.O,x.V,.int .i64 x.s,.int .i64 x.p0,.int .i64 x.p1,.int .i64 x.p2,x.X]++ints .u8 x.tag ++ [.int .i64 x.E,.int .i64 x.S]:=by simp[cmC]
theorem cm_prd{x:CmP}(h:Cel w b 130 (cmC x)):Rd w .i64 (some ⟨b,5,none⟩) 3 3 [x.p0,x.p1,x.p2]:=
 ⟨rfl,Nat.le_refl _,fun _=>⟨b,5,rfl,h.lt,by rw[cm_path]at h;exact Cel.range h⟩⟩
theorem cm_trd{x:CmP}(h:Cel w b 130 (cmC x))(ht:x.tag.length=32):Rd w .u8 (some ⟨b,9,none⟩) 32 32 x.tag:=
 ⟨ht,Nat.le_refl _,fun _=>⟨b,9,rfl,h.lt,by rw[cm_tag]at h;exact Cel.range h⟩⟩
end Go.Proofs.YtppjnahcnofokaaGreat.T
namespace Go.Proofs.YtppjnahcnofokaaGreat.T
open Go.RowKit Go.Proofs.YtppjnahcnofokaaGreatW.PrintLast
open Go.Proofs.Tryz
variable{k:IntKind}{a:Act}{b i n B base m fuel D B':Nat}{l ch p t0 q:List Int}{w w' w1 w2:World}{t:TypeId}{P:Int->Int->Prop}{cs:Array Value}{A A':Option Addr}{o oi:Oper}{e s f st fl:Int}{xs:List (List Int×Int×Int×Int)}{ops:Array Oper}{rest l0:List Oper}{v:Value}{r:Option Nat}{rs rs2:List (Option Addr×Nat×Nat×List Int)}{E:Prop}{vs l3:List Value}{ad ai go:List Bool}{N:Act->Prop}{place:Nat->Option (Nat×Nat)}{bad:Bool}{es es':List (Int×List Int)}{T:List TypeId}{ps:List (List Int)}
structure RgI (w:World) (size:Nat) (A:Option Addr) (n c:Nat) (xs:List Value) (lo hi:Nat):Prop where
 rg:Rg w size A n c xs
 at_:0<c->∃b o,A=some ⟨b,o,none⟩/\lo<=b/\b<hi
theorem own_rgI{c size:Nat}{e:TypeId}{xs:List Value}(h:w.ownsRow base e size (.slice A n c) n xs):RgI w size A n c xs base w.heap.size:=by
 have hlt:=h.lt;have hcells:=fun(g:Nat)=>h.cells (g:=g);obtain⟨hl,⟨e1,h0⟩|⟨g,cap,cur,e1,hb,hg,hc,_⟩⟩:=h
 · (injection e1 with e1 e2 e3);subst e1 e2 e3;exact⟨⟨hl,by omega,fun h0=>by omega⟩,fun h0=>by omega⟩
 injection e1 with e1 e2 e3
 subst e1 e3;have h2:=hlt g rfl;refine⟨⟨hl,hc,fun h0=>⟨g,0,rfl,h2.2,fun j v hv=>?_⟩⟩,fun h0=>⟨g,0,rfl,h2.1,h2.2⟩⟩;have:=hcells g rfl j v hv;rw[addr_add]at this;exact this
def zcm:CmP:=⟨0,0,.slice none 0 0,.slice none 0 0,0,0,0,0,.slice none 0 0,zl,0,0⟩
theorem zcmOk(w:World):CmOk w zcm:=
 ⟨rfl,⟨none,0,0,[],rfl,⟨rfl,by omega,fun h=>by omega⟩,by omega⟩,⟨none,0,0,[],rfl,⟨rfl,by omega,fun h=>by omega⟩,by omega⟩,⟨none,0,0,rfl,⟨by omega,fun h=>by omega⟩,by omega⟩⟩
theorem et30:ET 30 55 5 40:=et_of (z:=.agg #[.int .i64 0,.int .i64 0,.int .i64 0,.int .i64 0,.int .i64 0]) underlying30 kk rfl dd
theorem et126:ET 126 118 3 24:=et_of (z:=.agg #[.int .i64 0,.int .i64 0,.int .i64 0]) underlying126 kk rfl dd
theorem own_g{e size:Nat}{xs:List Value}(h:w.ownsRow base e size v n xs)(hg:w.grownBy w' (some b))(hb:b<base):w'.ownsRow base e size v n xs:=
 h.kept hg (by
  cases hv:v.ownBlock with
  | none=>exact .inl rfl
  | some k=>exact .inr (by have:=(h.lt k hv).1;simp;omega))
structure BxS (w:World) (base:Nat) (v:Value) (n:Nat) (rs:List (Option Addr×Nat×Nat×List Int)):Prop where
 rows:RowsO w base v n rs
 small:∀r ∈ rs,r.2.1<=300
 lo:∀r ∈ rs,∀k,(sv r).ownBlock=some k->base<=k
theorem BxS.g(h:BxS w base v n rs)(hg:w.grownBy w' (some b))(hb:b<base):BxS w' base v n rs:=
 ⟨⟨h.rows.len,own_g h.rows.own hg hb,fun r hr=>⟨(h.rows.each r hr).1.grown hg (fun b' o e=>by
  have:=h.lo r hr b' (by rw[sv,e];rfl)
  simp
  omega),(h.rows.each r hr).2⟩,fun r hr k hk=>⟨Nat.lt_of_lt_of_le (h.rows.far r hr k hk).1 hg.size,(h.rows.far r hr k hk).2⟩⟩,h.small,h.lo⟩
theorem BxS.below(h:BxS w base v n rs)(hb:Bl w w'):BxS w' base v n rs:=⟨h.rows.below hb,h.small,h.lo⟩
theorem BxS.rdl{c:Nat}(h:BxS w base (.slice A n c) n rs):RdL w A n c 300:=by
 have hi:=own_rgI h.rows.own;refine⟨hi.rg.cap,fun h0=>?_⟩;obtain⟨b,o,e,hlt,hr⟩:=hi.rg.at_ h0;refine⟨b,o,e,hlt,fun j hj=>?_⟩;have hlen:=h.rows.len;have hq:rs[j]? = some rs[j]:=List.getElem?_eq_getElem o_;have hm:rs[j] ∈ rs:=List.getElem_mem _;exact⟨_,_,_,_,hr j _ (by rw[List.getElem?_map,hq];rfl),(h.rows.each _ hm).1,h.small _ hm⟩
theorem cm_tsplit(x:CmP):cmC x=[.int .i64 x.e,.int .i64 x.f,x.O,x.V,.int .i64 x.s,.int .i64 x.p0,.int .i64 x.p1,.int .i64 x.p2,x.X]++ints .u8 x.tag ++ [.int .i64 x.E,.int .i64 x.S]:=cm_tag x
theorem cm_ssplit(x:CmP):cmC x=([.int .i64 x.e,.int .i64 x.f,x.O,x.V,.int .i64 x.s,.int .i64 x.p0,.int .i64 x.p1,.int .i64 x.p2,x.X]++ints .u8 x.tag)++ints .i64 [x.E,x.S] ++ []:=by simp[cmC,ints]
end Go.Proofs.YtppjnahcnofokaaGreat.T
namespace Go.Proofs.YtppjnahcnofokaaGreat.T
open Go.RowKit Go.Proofs.YtppjnahcnofokaaGreatW.PrintLast
open Go.Proofs.Tryz
variable{k:IntKind}{a:Act}{b i n B base m fuel D B':Nat}{l ch p t0 q:List Int}{w w' w1 w2:World}{t:TypeId}{P:Int->Int->Prop}{cs:Array Value}{A A':Option Addr}{o oi:Oper}{e s f st fl:Int}{xs:List (List Int×Int×Int×Int)}{ops:Array Oper}{rest l0:List Oper}{v:Value}{r:Option Nat}{rs rs2:List (Option Addr×Nat×Nat×List Int)}{E:Prop}{vs l3:List Value}{ad ai go:List Bool}{N:Act->Prop}{place:Nat->Option (Nat×Nat)}{bad:Bool}{es es':List (Int×List Int)}{T:List TypeId}{ps:List (List Int)}
theorem OwnB.set{c g:Nat}{x:Int}(h:OwnB w base (.slice (some ⟨g,0,none⟩) n c) n):OwnB (w.setCell ⟨g,i,none⟩ (.int .u8 x)) base (.slice (some ⟨g,0,none⟩) n c) n:=by
 obtain⟨l,hl,h1,⟨e,_⟩|⟨g',cap,cur,e,hb,hg,hc,hm,hs,ht⟩⟩:=h
 · cases e
 injection e with e1 e2 e3
 obtain rfl:g=g':=by simpa using e1
 subst e3;have hC:Cel w g 5 cur.toList:=hg;refine⟨l.set i x,by rw[List.length_set];exact hl,by rw[ints_len,List.length_set,hl,Nat.mul_one],.inr ⟨g,c,(cur.toList.set i (.int .u8 x)).toArray,rfl,hb,hC.set i _,hc,hm,by simpa using hs,?_⟩⟩;rw[List.take_set,ht];simp[ints,List.map_set]
theorem OwnB.at{c:Nat}(h:OwnB w base (.slice A n c) n)(hn:0<n):∃g,A=some ⟨g,0,none⟩/\base<=g/\g<w.heap.size/\n<=c:=by
 obtain⟨l,hl,h1,⟨e,h0⟩|⟨g',cap,cur,e,hb,hg,hc,hm,hs,ht⟩⟩:=h
 · omega
 injection e with e1 e2 e3
 subst e3;exact⟨g',e1,hb,(Array.getElem?_eq_some_iff.1 hg).1,hc⟩
theorem OwnB.free{c g:Nat}(h:OwnB w base (.slice (some ⟨g,0,none⟩) n c) n)(i:Nat):w.frozen? ⟨g,i,none⟩=false:=by
 obtain⟨l,hl,h1,⟨e,_⟩|⟨g',cap,cur,e,hb,hg,hc,hm,hs,ht⟩⟩:=h
 · cases e
 injection e with e1 e2 e3
 obtain rfl:g=g':=by simpa using e1
 exact Cel.free (vs:=cur.toList) hg i
theorem OwnB.cell{c g:Nat}(h:OwnB w base (.slice (some ⟨g,0,none⟩) n c) n)(i:Nat)(hi:i<n):∃x,w.cell? ⟨g,i,none⟩=some (.int .u8 x):=by
 obtain⟨l,hr⟩:=h.rd;obtain⟨x,hx⟩:=hr.cell i hi;exact⟨x,by simpa using hx⟩
def Tag8(r:Ending)(w':World):Prop:=∃b l,r=.returned (.slice (some ⟨b,0,none⟩) 8 32)/\Rd w' .u8 (some ⟨b,0,none⟩) 8 32 l
theorem tagged_any(p:List Int)(A A2:Option Addr)(n c n2 c2:Nat)(l l2:List Int)(w:World)(hp:p.length=32)(hr:Rd w .u8 A n c l)(hr2:Rd w .u8 A2 n2 c2 l2)(hn:n<=60000)(hn2:n2<=60000):Calls prog 178 #[.agg (ints .u8 p).toArray,.slice A n c,.slice A2 n2 c2] w fun r w'=>Tag8 r w'/\Bl w w':=by
 obtain⟨w1,hW⟩:=ex_ (w.alloc (.cells (ints .u8 p).toArray 43));have hb1:=nb_ hW;have HP:Hid (Blk w1 w.heap.size .u8 43 p):=by rw[hW];exact blk_new _ _ _ _ _ rfl
 have HRR:Hid (RdR (w1.alloc (.cells #[.slice A n c,.slice A2 n2 c2] 31)) (some ⟨w1.heap.size,0,none⟩) 2 2 60000 [(A,n,c,l),(A2,n2,c2,l2)]):=rdr_new w1 [(A,n,c,l),(A2,n2,c2,l2)] _ 2 rfl rfl (fun r hx=>by
  simp at hx
  rcases hx with rfl|rfl
  · exact⟨hr.below hb1,hn⟩
  · exact⟨hr2.below hb1,hn2⟩)
 have HB1:Hid (Bl w (w1.alloc (.cells #[.slice A n c,.slice A2 n2 c2] 31))):=hb1.alloc hb1.size _;have HPp:=hd_ hp;have HW:=hd_ hW;clear hW hb1 hr hr2 hp;go_enter func178,ntmps178
 go_wp2_with ((change wpList _ _ _ _ _ (w.alloc (.cells (ints .u8 p).toArray 43)));rw[<-HW.out];refine wpList_load_mid rfl 43 (.tmp 3) rr w.heap.size 0 rr (ints .u8 p) _ HP.out.range underlying43 rfl (hi43 HPp.out).out ?_);refine(derive_any p _ _ 2 2 _ _ HPp.out dd HRR.out o_).mono ?_;rintro _ w2 ⟨⟨lz,hlz,rfl⟩,hb2⟩;have HB2:=tb_ HB1 hb2;have HLz:=hd_ hlz;have HZ:Hid (Row (w2.alloc (.cells (ints .u8 zl).toArray 43)) w2.heap.size .u8 43 32):=Row.new zl _ rfl rfl;clear hb2 hlz;go_wp2_with (refine store_blk rfl 43 (.tmp 7) (.tmp 12) rr w2.heap.size .u8 lz rr rr HZ.out HLz.out (by show _=_;rw[HLz.out];exact info43) ?_;intro w3 hB3 hg3);go_ret;exact⟨⟨w2.heap.size,_,rfl,(rd_blk hB3 HLz.out).take dd⟩,(bal HB2.out).grown hg3 (bal HB2.out).size (fun k hk=>by cases hk;exact HB2.out.size)⟩
theorem RdR.below{c:Nat}(h:RdR w A n c B rs)(hb:Bl w w'):RdR w' A n c B rs:=
 ⟨h.len,h.rg.below hb,fun r hr=>⟨(h.each r hr).1.below hb,(h.each r hr).2⟩⟩
theorem OwnB.grown'{g c:Nat}(h:OwnB w base (.slice (some ⟨g,0,none⟩) n c) n)(hg:w.grownBy w' (some b))(hne:g≠b):OwnB w' base (.slice (some ⟨g,0,none⟩) n c) n:=by
 obtain⟨l,hl,ho⟩:=h;exact⟨l,hl,ho.kept hg (.inr (by simpa[Value.ownBlock] using hne))⟩
theorem streamed_any(p:List Int)(A:Option Addr)(n c:Nat)(l:List Int)(w:World)(hp:p.length=32)(hr:Rd w .u8 A n c l)(hn:n<=220):Calls prog 179 #[.agg (ints .u8 p).toArray,.slice A n c] w fun r w'=>OwnR w n r w'/\Bl w w':=by
 obtain⟨w1,hW⟩:=ex_ (w.alloc (.cells (ints .u8 p).toArray 43));have hb1:=nb_ hW;have HP1:Hid (Blk w1 w.heap.size .u8 43 p):=by rw[hW];exact blk_new _ _ _ _ _ rfl
 have HR:=hd_ (hr.below hb1);have HB1:=hd_ hb1;have HPp:=hd_ hp;have HW:=hd_ hW;clear hW hb1 hr hp;go_enter func179,ntmps179
 go_wp2_with ((change Calls _ _ _ (w.alloc (.cells (ints .u8 p).toArray 43)) _);fail);change Calls _ _ _ (w.alloc (.cells (ints .u8 p).toArray 43)) _;rw[<-HW.out];refine(sclone_any A n c l w1 HR.out o_).mono ?_;rintro _ w2 ⟨⟨A1,c1,rfl,ho2⟩,hb2⟩;have HO2:=hd_ ho2;have HB2:Hid (Bl w1 w2):=hb2;clear ho2 hb2;go_wp2_with fail;go_loopw [5] (fun v wr=>∃i:Nat,v=.int .i64 i/\i<=7/\Hid (OwnB wr w1.heap.size (.slice A1 n c1) n)/\Hid (Bl w1 wr)) (fun v _=>8-(intOf v).toNat)
 case atStart=>exact⟨0,rfl,by omega,HO2,HB2⟩
 case round=>
  clear HO2 HB2
  obtain⟨wa,rfl⟩:=ex_ (wr)
  obtain⟨i,rfl,hi,HO,HB⟩:=hrel
  by_cases hlt:i*32<n
  · (have hlt':(i:Int)*32<n:=by omega);(have hi6:i<=6:=by omega);go_wp2_with fail;refine pr_ 0 7 (bt 7 0) fun w1d hw1d=>?_;refine mG ?_;(have HP:Hid (Blk w1d w.heap.size .u8 43 p):=by rw[<-hw1d];exact(HP1.out.below HB.out HP1.out.lt).drew);(have HBx:Hid (Bl w1 w1d):=by rw[<-hw1d];exact HB.out.drew);(have HOx:Hid (OwnB w1d w1.heap.size (.slice A1 n c1) n):=by rw[<-hw1d];exact HO.out.drew);clear hw1d HO HB;refine wpAny_of_last (S:=fun w'=>Hid (Blk w' w.heap.size .u8 43 p)/\Hid (Bl w1 w')/\Hid (OwnB w' w1.heap.size (.slice A1 n c1) n)) (ds:=[6]) _ _ _ _ ?_;have hH:(fun w'=>Hid (Blk w' w.heap.size .u8 43 p)/\Hid (Bl w1 w')/\Hid (OwnB w' w1.heap.size (.slice A1 n c1) n)) w1d:=⟨HP,HBx,HOx⟩;refine ts_ 0 2 5 (bt 7 3) hH ?_;refine mD ?_;(repeat (first|(refine tk_ 43 (.tmp 2) w.heap.size 0 (ints .u8 p) (fun _ h=>h.1.out.range) underlying43 rfl (hi43 HPp.out).out ?_)|(refine uA ?_)|(refine mB3 ?_)));refine takes_nil ?_;clear hH;refine join_ (σ:=Option Addr×Nat×List Int×Nat×List Int×Nat) 1 (bt 7 63) (fun s=>match s with|(A2,c2,l2,b3,l4,b5)=>[(19,.slice A2 4 c2),(20,.slice (some ⟨b3,0,none⟩) 1 1),(21,.agg (ints .u8 l4).toArray),(6,.pointer (some ⟨b5,0,none⟩))]) (fun s w'=>match s with|(A2,c2,l2,b3,l4,b5)=>Hid (Blk w' w.heap.size .u8 43 p)/\Hid (Bl w1 w')/\Hid (OwnB w' w1.heap.size (.slice A1 n c1) n)/\Hid (Rd w' .u8 A2 4 c2 l2)/\Hid (RdR w' (some ⟨b3,0,none⟩) 1 1 60000 [(A2,4,c2,l2)])/\Hid (l4.length=32)/\Hid (Row w' b5 .u8 43 32)/\Hid (w1.heap.size<=b5/\A1≠some ⟨b5,0,none⟩)) ?_ (fun st0=>?_)
    · rintro⟨A2,c2,l2,b3,l4,b5⟩ wc ⟨HP,HBx,HOx,H2,H3,H4,H5,H5b⟩;refine mE ?_;have hH:=trivial;refine tl_ 6 ?_;refine mF ?_;obtain⟨g,rfl,hgb,hgl,hgc⟩:=HOx.out.at o_;have hne:g≠b5:=fun e=>H5b.out.2 (by rw[e]);clear hH;by_cases hmn:((i:Int)+1)*32<=n
      · go_wp2_with (refine store_blk rfl 43 (.tmp 6) (.tmp 21) rr b5 .u8 l4 rr rr H5.out H4.out (by show _=_;rw[H4.out];exact info43) ?_
                     intro w5 hB5 hg5
                     have H6:Hid (Row w5 b5 .u8 43 32):=⟨l4,H4.out,hB5⟩
                     have HB6:Hid (Bl w1 w5):=HBx.out.grown hg5 HBx.out.size (fun k hk=>by cases hk;exact H5b.out.1)
                     have HO6:Hid (OwnB w5 w1.heap.size (.slice (some ⟨g,0,none⟩) n c1) n):=HOx.out.grown' hg5 s1_
                     clear hB5 hg5)
        obtain⟨M,hM⟩:=ex_ ((i+1)*32-i*32);(have hM1:M<=32:=by omega);(have hM2:i*32+M<=n:=by omega);rw[<-hM];clear hM;(go_loopw [33] (fun v wr=>∃j:Nat,v=.int .i64 j/\j<=M/\Hid (OwnB wr w1.heap.size (.slice (some ⟨g,0,none⟩) n c1) n)/\Hid (Row wr b5 .u8 43 32)/\Hid (Bl w1 wr)) (fun v _=>M-(intOf v).toNat));(case atStart=>exact⟨0,rfl,by omega,HO6,H6,HB6⟩);case round=>
         clear HO6 H6 HB6 HOx HBx HP H2 H3 H5;obtain⟨wb,rfl⟩:=ex_ (wr);obtain⟨j,rfl,hj,HO,H6,HB⟩:=hrel;by_cases hlj:j<M;(· obtain⟨I,hI⟩:∃I:Nat,I=i*32+j:=⟨_,rfl⟩;(have e1:IntKind.i64.wrap ((i:Int)*32)=(i:Int)*32:=by rw[IntKind.wrap_i64];omega);(have e2:IntKind.i64.wrap ((i:Int)*32+(j:Int))=(I:Int):=by rw[IntKind.wrap_i64];omega);(have hj32:(j:Int)<32:=by omega);(have hjn:I<n:=by omega);have HI:=hd_ hI;clear hI;go_wp2_with fail;refine pr_ 0 13 (bt 13 0) fun w1d hw1d=>?_;refine mG ?_;(have HO9:Hid (OwnB w1d w1.heap.size (.slice (some ⟨g,0,none⟩) n c1) n):=by rw[<-hw1d];exact HO.out.drew);(have H69:Hid (Row w1d b5 .u8 43 32):=by rw[<-hw1d];exact H6.out.drew);(have HB9:Hid (Bl w1 w1d):=by rw[<-hw1d];exact HB.out.drew);obtain⟨x1,k1⟩:=HO9.out.cell I hjn;obtain⟨x2,k2⟩:=H69.out.at j o_;have f1:=HO9.out.free I;have hcc:=hgc;clear hw1d;refine wpAny_of_last (S:=fun w'=>w'=w1d) (ds:=[12]) _ _ _ _ ?_;have hH:w1d=w1d:=rfl;refine ts_ 0 12 1 (bt 13 4095) hH ?_;refine mD ?_;refine uQ ?_;refine takes_nil ?_;refine tl_ 12 ?_;refine mF ?_;go_wp2_with fail;go_roundw;(case rel=>exact⟨j+1,by go_num,by omega,HO9.out.set,H69.out.other hne _ _,HB9.out.grown (grownBy_set1 _ _ _ _) HB9.out.size (fun k hk=>by cases hk;exact hgb)⟩);case measure=>simp[intOf];omega);go_wp2_with fail;exact⟨⟨i+1,by go_num,by omega,HO,HB⟩,by simp[intOf];omega⟩
      · go_wp2_with (refine store_blk rfl 43 (.tmp 6) (.tmp 21) rr b5 .u8 l4 rr rr H5.out H4.out (by show _=_;rw[H4.out];exact info43) ?_
                     intro w5 hB5 hg5
                     have H6:Hid (Row w5 b5 .u8 43 32):=⟨l4,H4.out,hB5⟩
                     have HB6:Hid (Bl w1 w5):=HBx.out.grown hg5 HBx.out.size (fun k hk=>by cases hk;exact H5b.out.1)
                     have HO6:Hid (OwnB w5 w1.heap.size (.slice (some ⟨g,0,none⟩) n c1) n):=HOx.out.grown' hg5 s1_
                     clear hB5 hg5)
        obtain⟨M,hM⟩:=ex_ (n-i*32);(have hM1:M<=32:=by omega);(have hM2:i*32+M<=n:=by omega);rw[<-hM];clear hM;(go_loopw [33] (fun v wr=>∃j:Nat,v=.int .i64 j/\j<=M/\Hid (OwnB wr w1.heap.size (.slice (some ⟨g,0,none⟩) n c1) n)/\Hid (Row wr b5 .u8 43 32)/\Hid (Bl w1 wr)) (fun v _=>M-(intOf v).toNat));(case atStart=>exact⟨0,rfl,by omega,HO6,H6,HB6⟩);case round=>
         clear HO6 H6 HB6 HOx HBx HP H2 H3 H5;obtain⟨wb,rfl⟩:=ex_ (wr);obtain⟨j,rfl,hj,HO,H6,HB⟩:=hrel;by_cases hlj:j<M;(· obtain⟨I,hI⟩:∃I:Nat,I=i*32+j:=⟨_,rfl⟩;(have e1:IntKind.i64.wrap ((i:Int)*32)=(i:Int)*32:=by rw[IntKind.wrap_i64];omega);(have e2:IntKind.i64.wrap ((i:Int)*32+(j:Int))=(I:Int):=by rw[IntKind.wrap_i64];omega);(have hj32:(j:Int)<32:=by omega);(have hjn:I<n:=by omega);have HI:=hd_ hI;clear hI;go_wp2_with fail;refine pr_ 0 13 (bt 13 0) fun w1d hw1d=>?_;refine mG ?_;(have HO9:Hid (OwnB w1d w1.heap.size (.slice (some ⟨g,0,none⟩) n c1) n):=by rw[<-hw1d];exact HO.out.drew);(have H69:Hid (Row w1d b5 .u8 43 32):=by rw[<-hw1d];exact H6.out.drew);(have HB9:Hid (Bl w1 w1d):=by rw[<-hw1d];exact HB.out.drew);obtain⟨x1,k1⟩:=HO9.out.cell I hjn;obtain⟨x2,k2⟩:=H69.out.at j o_;have f1:=HO9.out.free I;have hcc:=hgc;clear hw1d;refine wpAny_of_last (S:=fun w'=>w'=w1d) (ds:=[12]) _ _ _ _ ?_;have hH:w1d=w1d:=rfl;refine ts_ 0 12 1 (bt 13 4095) hH ?_;refine mD ?_;refine uQ ?_;refine takes_nil ?_;refine tl_ 12 ?_;refine mF ?_;go_wp2_with fail;go_roundw;(case rel=>exact⟨j+1,by go_num,by omega,HO9.out.set,H69.out.other hne _ _,HB9.out.grown (grownBy_set1 _ _ _ _) HB9.out.size (fun k hk=>by cases hk;exact hgb)⟩);case measure=>simp[intOf];omega);go_wp2_with fail;exact⟨⟨i+1,by go_num,by omega,HO,HB⟩,by simp[intOf];omega⟩
    refine join_ (σ:=Option Addr×Nat×List Int×Nat×List Int) 2 (bt 7 31) (fun s=>match s with|(A2,c2,l2,b3,l4)=>[(19,.slice A2 4 c2),(20,.slice (some ⟨b3,0,none⟩) 1 1),(21,.agg (ints .u8 l4).toArray)]) (fun s w'=>match s with|(A2,c2,l2,b3,l4)=>Hid (Blk w' w.heap.size .u8 43 p)/\Hid (Bl w1 w')/\Hid (OwnB w' w1.heap.size (.slice A1 n c1) n)/\Hid (Rd w' .u8 A2 4 c2 l2)/\Hid (RdR w' (some ⟨b3,0,none⟩) 1 1 60000 [(A2,4,c2,l2)])/\Hid (l4.length=32)) ?_ (fun st1=>?_);(· rintro⟨A2,c2,l2,b3,l4⟩ wc ⟨HP,HBx,HOx,H2,H3,H4⟩;refine mE ?_;have hH:=trivial;refine one_ (i:=5) (N:=some 6) (bt 7 63) rfl rfl kk dd (fun K hK=>?_);obtain⟨wn,hwn⟩:=ex_ (wc.alloc (.cells (ints .u8 zl).toArray 43));refine value_ rr rfl (v:=.pointer (some ⟨wc.heap.size,0,none⟩)) (w1:=wn) (vv hwn) ?_;have hbn:=nb_ hwn;obtain⟨b5,hb5⟩:=ex_ (wc.heap.size);(have H5:Hid (Row wn b5 .u8 43 32):=by rw[hwn,hb5];exact Row.new zl _ rfl rfl);have H5b:Hid (w1.heap.size<=b5/\A1≠some ⟨b5,0,none⟩):=⟨by rw[hb5];exact HBx.out.size,fun e=>by obtain⟨g,e2,_,hg,_⟩:=HOx.out.at o_;rw[e]at e2;injection e2 with e2;injection e2 with e2;omega⟩;rw[<-hb5];clear hwn hb5;have HPn:=hd_ (HP.out.below hbn HP.out.lt);have HBxn:=tb_ HBx hbn;have HOxn:=hd_ (HOx.out.below hbn);have H2n:=hd_ (H2.out.below hbn);have H3n:=hd_ (RdR.below H3.out hbn);have H4n:=hd_ (H4.out);refine hK.out _ _ (⟨HPn,HBxn,HOxn⟩) (fun hH=>?_);refine mN ?_;exact mH (st0 (A2,c2,l2,b3,l4,b5) wn ⟨HPn,HBxn,HOxn,H2n,H3n,H4n,H5,H5b⟩));refine join_ (σ:=Option Addr×Nat×List Int×Nat×Nat) 2 (bt 7 47) (fun s=>match s with|(A2,c2,l2,b3,b5)=>[(19,.slice A2 4 c2),(20,.slice (some ⟨b3,0,none⟩) 1 1),(6,.pointer (some ⟨b5,0,none⟩))]) (fun s w'=>match s with|(A2,c2,l2,b3,b5)=>Hid (Blk w' w.heap.size .u8 43 p)/\Hid (Bl w1 w')/\Hid (OwnB w' w1.heap.size (.slice A1 n c1) n)/\Hid (Rd w' .u8 A2 4 c2 l2)/\Hid (RdR w' (some ⟨b3,0,none⟩) 1 1 60000 [(A2,4,c2,l2)])/\Hid (Row w' b5 .u8 43 32)/\Hid (w1.heap.size<=b5/\A1≠some ⟨b5,0,none⟩)) ?_ (fun st2=>?_);(· rintro⟨A2,c2,l2,b3,b5⟩ wc ⟨HP,HBx,HOx,H2,H3,H5,H5b⟩;refine mE ?_;have hH:=trivial;refine one_ (i:=4) (N:=some 21) (bt 7 63) rfl rfl kk dd (fun K hK=>?_);refine goes_ func37 kk rfl #[.agg (ints .u8 p).toArray,.string ⟨#[115,116,114,101,97,109]⟩,.slice (some ⟨b3,0,none⟩) 1 1] rr rfl rfl mL ?_;refine(derive_any p _ _ 1 1 _ _ HPp.out dd H3.out o_).mono ?_;rintro _ wn ⟨⟨l4,hl4,rfl⟩,hbn⟩;refine⟨_,rfl,?_⟩;have H4:Hid (l4.length=32):=hl4;have HPn:=hd_ (HP.out.below hbn HP.out.lt);have HBxn:=tb_ HBx hbn;have HOxn:=hd_ (HOx.out.below hbn);have H2n:=hd_ (H2.out.below hbn);have H3n:=hd_ (RdR.below H3.out hbn);have H5n:=hd_ (H5.out.below hbn H5.out.lt);have H5bn:=hd_ (H5b.out);refine hK.out _ _ (⟨HPn,HBxn,HOxn⟩) (fun hH=>?_);refine mN ?_;exact mH (st0 (A2,c2,l2,b3,l4,b5) wn ⟨HPn,HBxn,HOxn,H2n,H3n,H4,H5n,H5bn⟩));refine join_ (σ:=Option Addr×Nat×List Int×Nat) 3 (bt 7 15) (fun s=>match s with|(A2,c2,l2,b3)=>[(19,.slice A2 4 c2),(20,.slice (some ⟨b3,0,none⟩) 1 1)]) (fun s w'=>match s with|(A2,c2,l2,b3)=>Hid (Blk w' w.heap.size .u8 43 p)/\Hid (Bl w1 w')/\Hid (OwnB w' w1.heap.size (.slice A1 n c1) n)/\Hid (Rd w' .u8 A2 4 c2 l2)/\Hid (RdR w' (some ⟨b3,0,none⟩) 1 1 60000 [(A2,4,c2,l2)])) ?_ (fun st3=>?_);(· rintro⟨A2,c2,l2,b3⟩ wc ⟨HP,HBx,HOx,H2,H3⟩;refine mE ?_;have hH:=trivial;refine two_ (i:=4) (j:=5) (Ni:=some 21) (Nj:=some 6) (bt 7 31) (bt 7 47) rfl rfl rfl rfl kk dd dd (fun K hK=>?_) (fun K hK=>?_);(· refine goes_ func37 kk rfl #[.agg (ints .u8 p).toArray,.string ⟨#[115,116,114,101,97,109]⟩,.slice (some ⟨b3,0,none⟩) 1 1] rr rfl rfl mL ?_;refine(derive_any p _ _ 1 1 _ _ HPp.out dd H3.out o_).mono ?_;rintro _ wn ⟨⟨l4,hl4,rfl⟩,hbn⟩;refine⟨_,rfl,?_⟩;have H4:Hid (l4.length=32):=hl4;have HPn:=hd_ (HP.out.below hbn HP.out.lt);have HBxn:=tb_ HBx hbn;have HOxn:=hd_ (HOx.out.below hbn);have H2n:=hd_ (H2.out.below hbn);have H3n:=hd_ (RdR.below H3.out hbn);refine hK.out _ _ (⟨HPn,HBxn,HOxn⟩) (fun hH=>?_);refine mN ?_;exact mH (st1 (A2,c2,l2,b3,l4) wn ⟨HPn,HBxn,HOxn,H2n,H3n,H4⟩));obtain⟨wn,hwn⟩:=ex_ (wc.alloc (.cells (ints .u8 zl).toArray 43));refine value_ rr rfl (v:=.pointer (some ⟨wc.heap.size,0,none⟩)) (w1:=wn) (vv hwn) ?_;have hbn:=nb_ hwn;obtain⟨b5,hb5⟩:=ex_ (wc.heap.size);(have H5:Hid (Row wn b5 .u8 43 32):=by rw[hwn,hb5];exact Row.new zl _ rfl rfl);have H5b:Hid (w1.heap.size<=b5/\A1≠some ⟨b5,0,none⟩):=⟨by rw[hb5];exact HBx.out.size,fun e=>by obtain⟨g,e2,_,hg,_⟩:=HOx.out.at o_;rw[e]at e2;injection e2 with e2;injection e2 with e2;omega⟩;rw[<-hb5];clear hwn hb5;have HPn:=hd_ (HP.out.below hbn HP.out.lt);have HBxn:=tb_ HBx hbn;have HOxn:=hd_ (HOx.out.below hbn);have H2n:=hd_ (H2.out.below hbn);have H3n:=hd_ (RdR.below H3.out hbn);refine hK.out _ _ (⟨HPn,HBxn,HOxn⟩) (fun hH=>?_);refine mN ?_;exact mH (st2 (A2,c2,l2,b3,b5) wn ⟨HPn,HBxn,HOxn,H2n,H3n,H5,H5b⟩));refine join_ (σ:=Option Addr×Nat×List Int×Nat) 3 (bt 7 39) (fun s=>match s with|(A2,c2,l2,b5)=>[(19,.slice A2 4 c2),(6,.pointer (some ⟨b5,0,none⟩))]) (fun s w'=>match s with|(A2,c2,l2,b5)=>Hid (Blk w' w.heap.size .u8 43 p)/\Hid (Bl w1 w')/\Hid (OwnB w' w1.heap.size (.slice A1 n c1) n)/\Hid (Rd w' .u8 A2 4 c2 l2)/\Hid (Row w' b5 .u8 43 32)/\Hid (w1.heap.size<=b5/\A1≠some ⟨b5,0,none⟩)) ?_ (fun st4=>?_);(· rintro⟨A2,c2,l2,b5⟩ wc ⟨HP,HBx,HOx,H2,H5,H5b⟩;refine mE ?_;have hH:=trivial;refine one_ (i:=3) (N:=some 20) (bt 7 47) rfl rfl kk dd (fun K hK=>?_);obtain⟨wn,hwn⟩:=ex_ (wc.alloc (.cells #[.slice A2 4 c2] 31));refine value_ rr rfl (v:=.slice (some ⟨wc.heap.size,0,none⟩) 1 1) (w1:=wn) (by rw[hwn];go_simp) ?_;have hbn:=nb_ hwn;obtain⟨b3,hb3⟩:=ex_ (wc.heap.size);(have H3:Hid (RdR wn (some ⟨b3,0,none⟩) 1 1 60000 [(A2,4,c2,l2)]):=by rw[hwn,hb3];exact rdr_new _ [(A2,4,c2,l2)] _ 1 rfl rfl (fun r hx=>by simp at hx;subst hx;exact⟨H2.out,by show 4<=_;omega⟩));rw[<-hb3];clear hwn hb3;have HPn:=hd_ (HP.out.below hbn HP.out.lt);have HBxn:=tb_ HBx hbn;have HOxn:=hd_ (HOx.out.below hbn);have H2n:=hd_ (H2.out.below hbn);have H5n:=hd_ (H5.out.below hbn H5.out.lt);have H5bn:=hd_ (H5b.out);refine hK.out _ _ (⟨HPn,HBxn,HOxn⟩) (fun hH=>?_);refine mN ?_;exact mH (st2 (A2,c2,l2,b3,b5) wn ⟨HPn,HBxn,HOxn,H2n,H3,H5n,H5bn⟩));refine join_ (σ:=Option Addr×Nat×List Int) 4 (bt 7 7) (fun s=>match s with|(A2,c2,l2)=>[(19,.slice A2 4 c2)]) (fun s w'=>match s with|(A2,c2,l2)=>Hid (Blk w' w.heap.size .u8 43 p)/\Hid (Bl w1 w')/\Hid (OwnB w' w1.heap.size (.slice A1 n c1) n)/\Hid (Rd w' .u8 A2 4 c2 l2)) ?_ (fun st5=>?_);(· rintro⟨A2,c2,l2⟩ wc ⟨HP,HBx,HOx,H2⟩;refine mE ?_;have hH:=trivial;refine two_ (i:=3) (j:=5) (Ni:=some 20) (Nj:=some 6) (bt 7 15) (bt 7 39) rfl rfl rfl rfl kk dd dd (fun K hK=>?_) (fun K hK=>?_);(· obtain⟨wn,hwn⟩:=ex_ (wc.alloc (.cells #[.slice A2 4 c2] 31));refine value_ rr rfl (v:=.slice (some ⟨wc.heap.size,0,none⟩) 1 1) (w1:=wn) (by rw[hwn];go_simp) ?_;have hbn:=nb_ hwn;obtain⟨b3,hb3⟩:=ex_ (wc.heap.size);(have H3:Hid (RdR wn (some ⟨b3,0,none⟩) 1 1 60000 [(A2,4,c2,l2)]):=by rw[hwn,hb3];exact rdr_new _ [(A2,4,c2,l2)] _ 1 rfl rfl (fun r hx=>by simp at hx;subst hx;exact⟨H2.out,by show 4<=_;omega⟩));rw[<-hb3];clear hwn hb3;have HPn:=hd_ (HP.out.below hbn HP.out.lt);have HBxn:=tb_ HBx hbn;have HOxn:=hd_ (HOx.out.below hbn);have H2n:=hd_ (H2.out.below hbn);refine hK.out _ _ (⟨HPn,HBxn,HOxn⟩) (fun hH=>?_);refine mN ?_;exact mH (st3 (A2,c2,l2,b3) wn ⟨HPn,HBxn,HOxn,H2n,H3⟩));obtain⟨wn,hwn⟩:=ex_ (wc.alloc (.cells (ints .u8 zl).toArray 43));refine value_ rr rfl (v:=.pointer (some ⟨wc.heap.size,0,none⟩)) (w1:=wn) (vv hwn) ?_;have hbn:=nb_ hwn;obtain⟨b5,hb5⟩:=ex_ (wc.heap.size);(have H5:Hid (Row wn b5 .u8 43 32):=by rw[hwn,hb5];exact Row.new zl _ rfl rfl);have H5b:Hid (w1.heap.size<=b5/\A1≠some ⟨b5,0,none⟩):=⟨by rw[hb5];exact HBx.out.size,fun e=>by obtain⟨g,e2,_,hg,_⟩:=HOx.out.at o_;rw[e]at e2;injection e2 with e2;injection e2 with e2;omega⟩;rw[<-hb5];clear hwn hb5;have HPn:=hd_ (HP.out.below hbn HP.out.lt);have HBxn:=tb_ HBx hbn;have HOxn:=hd_ (HOx.out.below hbn);have H2n:=hd_ (H2.out.below hbn);refine hK.out _ _ (⟨HPn,HBxn,HOxn⟩) (fun hH=>?_);refine mN ?_;exact mH (st4 (A2,c2,l2,b5) wn ⟨HPn,HBxn,HOxn,H2n,H5,H5b⟩));refine join_ (σ:=Nat) 4 (bt 7 35) (fun s=>match s with|b5=>[(6,.pointer (some ⟨b5,0,none⟩))]) (fun s w'=>match s with|b5=>Hid (Blk w' w.heap.size .u8 43 p)/\Hid (Bl w1 w')/\Hid (OwnB w' w1.heap.size (.slice A1 n c1) n)/\Hid (Row w' b5 .u8 43 32)/\Hid (w1.heap.size<=b5/\A1≠some ⟨b5,0,none⟩)) ?_ (fun st6=>?_);(· rintro b5 wc ⟨HP,HBx,HOx,H5,H5b⟩;refine mE ?_;have hH:=trivial;refine one_ (i:=2) (N:=some 19) (bt 7 39) rfl rfl kk dd (fun K hK=>?_);refine goes_ func153 kk rfl #[.int .i64 i] rr rfl rfl mL ?_;refine(four_any _ _).mono ?_;rintro _ wn ⟨⟨A2,c2,l2,rfl,ho2,hl2⟩,hbn⟩;refine⟨_,rfl,?_⟩;have H2:Hid (Rd wn .u8 A2 4 c2 l2):=rd_own ho2 hl2;have HPn:=hd_ (HP.out.below hbn HP.out.lt);have HBxn:=tb_ HBx hbn;have HOxn:=hd_ (HOx.out.below hbn);have H5n:=hd_ (H5.out.below hbn H5.out.lt);have H5bn:=hd_ (H5b.out);refine hK.out _ _ (⟨HPn,HBxn,HOxn⟩) (fun hH=>?_);refine mN ?_;exact mH (st4 (A2,c2,l2,b5) wn ⟨HPn,HBxn,HOxn,H2,H5n,H5bn⟩));have hH:=trivial;refine two_ (i:=2) (j:=5) (Ni:=some 19) (Nj:=some 6) (bt 7 7) (bt 7 35) rfl rfl rfl rfl kk dd dd (fun K hK=>?_) (fun K hK=>?_);(· refine goes_ func153 kk rfl #[.int .i64 i] rr rfl rfl mL ?_;refine(four_any _ _).mono ?_;rintro _ wn ⟨⟨A2,c2,l2,rfl,ho2,hl2⟩,hbn⟩;refine⟨_,rfl,?_⟩;have H2:Hid (Rd wn .u8 A2 4 c2 l2):=rd_own ho2 hl2;have HPn:=hd_ (HP.out.below hbn HP.out.lt);have HBxn:=tb_ HBx hbn;have HOxn:=hd_ (HOx.out.below hbn);refine hK.out _ _ (⟨HPn,HBxn,HOxn⟩) (fun hH=>?_);refine mN ?_;exact mH (st5 (A2,c2,l2) wn ⟨HPn,HBxn,HOxn,H2⟩));obtain⟨wn,hwn⟩:=ex_ (w1d.alloc (.cells (ints .u8 zl).toArray 43));refine value_ rr rfl (v:=.pointer (some ⟨w1d.heap.size,0,none⟩)) (w1:=wn) (vv hwn) ?_;have hbn:=nb_ hwn;obtain⟨b5,hb5⟩:=ex_ (w1d.heap.size);(have H5:Hid (Row wn b5 .u8 43 32):=by rw[hwn,hb5];exact Row.new zl _ rfl rfl);have H5b:Hid (w1.heap.size<=b5/\A1≠some ⟨b5,0,none⟩):=⟨by rw[hb5];exact HBx.out.size,fun e=>by obtain⟨g,e2,_,hg,_⟩:=HOx.out.at o_;rw[e]at e2;injection e2 with e2;injection e2 with e2;omega⟩;rw[<-hb5];clear hwn hb5;have HPn:=hd_ (HP.out.below hbn HP.out.lt);have HBxn:=tb_ HBx hbn;have HOxn:=hd_ (HOx.out.below hbn);refine hK.out _ _ (⟨HPn,HBxn,HOxn⟩) (fun hH=>?_);refine mN ?_;exact mH (st6 b5 wn ⟨HPn,HBxn,HOxn,H5,H5b⟩)
  · go_wp2_with fail;go_ret;exact⟨⟨A1,c1,rfl,own_base HO.out HB1.out.size⟩,HB1.out.trans (HB.out.mono HB1.out.size)⟩
end Go.Proofs.YtppjnahcnofokaaGreat.T
namespace Go.Proofs.YtppjnahcnofokaaGreat.T
open Go.RowKit Go.Proofs.YtppjnahcnofokaaGreatW.PrintLast
open Go.Proofs.Tryz
variable{k:IntKind}{a:Act}{b i n B base m fuel D B':Nat}{l ch p t0 q:List Int}{w w' w1 w2:World}{t:TypeId}{P:Int->Int->Prop}{cs:Array Value}{A A':Option Addr}{o oi:Oper}{e s f st fl:Int}{xs:List (List Int×Int×Int×Int)}{ops:Array Oper}{rest l0:List Oper}{v:Value}{r:Option Nat}{rs rs2:List (Option Addr×Nat×Nat×List Int)}{E:Prop}{vs l3:List Value}{ad ai go:List Bool}{N:Act->Prop}{place:Nat->Option (Nat×Nat)}{bad:Bool}{es es':List (Int×List Int)}{T:List TypeId}{ps:List (List Int)}
theorem Blk.grown{row:Option Nat}(h:Blk w b k t l)(hg:w.grownBy w' row)(hne:some b≠row):Blk w' b k t l:=Cel.blk (h.cel.grown hg hne)
end Go.Proofs.YtppjnahcnofokaaGreat.T
namespace Go.Proofs.YtppjnahcnofokaaGreat.T
open Go.RowKit Go.Proofs.YtppjnahcnofokaaGreatW.PrintLast
open Go.Proofs.Tryz
variable{k:IntKind}{a:Act}{b i n B base m fuel D B':Nat}{l ch p t0 q:List Int}{w w' w1 w2:World}{t:TypeId}{P:Int->Int->Prop}{cs:Array Value}{A A':Option Addr}{o oi:Oper}{e s f st fl:Int}{xs:List (List Int×Int×Int×Int)}{ops:Array Oper}{rest l0:List Oper}{v:Value}{r:Option Nat}{rs rs2:List (Option Addr×Nat×Nat×List Int)}{E:Prop}{vs l3:List Value}{ad ai go:List Bool}{N:Act->Prop}{place:Nat->Option (Nat×Nat)}{bad:Bool}{es es':List (Int×List Int)}{T:List TypeId}{ps:List (List Int)}
theorem info80:(prog.info? 80).map (·.size)=some 96:=by kernel_rfl
def z96:List Int:=List.replicate 96 0
def UpR(r:Ending):Prop:=∃l h:List Int,l.length=96/\h.length=32/\r=.returned (.tuple #[.agg (ints .u8 l).toArray,.agg (ints .u8 h).toArray])
theorem ints_cut(k:IntKind)(l:List Int)(a b:Nat):ints k l=ints k (l.take a)++ints k ((l.drop a).take b)++ints k (l.drop (a+b)):=by
 unfold ints;rw[<-List.map_append,<- List.map_append,List.append_assoc,<- List.drop_drop,List.take_append_drop,List.take_append_drop]
theorem up_any(p:List Int)(w:World)(hp:p.length=32):Calls prog 159 #[.agg (ints .u8 p).toArray] w fun r w'=>UpR r/\Bl w w':=by
 obtain⟨w1,hW⟩:=ex_ ((((w.alloc (.cells (ints .u8 p).toArray 43)).alloc (.cells (ints .u8 z96).toArray 80)).alloc (.cells (ints .u8 zl).toArray 43)).alloc (.cells (ints .u8 z96).toArray 80));have HB1:Hid (Bl w w1):=by rw[hW];exact bal (bal (bal b0_))
 have HS1:Hid (w.heap.size+4<=w1.heap.size):=by rw[hW];show _<=_;simp
 have HP1:Hid (Row w1 w.heap.size .u8 43 32):=by rw[hW,<- hp];exact(((Row.new p _ rfl rfl).alloc _).alloc _).alloc _
 have HQ1:Hid (Row w1 (w.heap.size+1) .u8 80 96):=by rw[hW];exact((Row.new z96 _ rfl s_).alloc _).alloc _
 have HU1:Hid (Row w1 (w.heap.size+2) .u8 43 32):=by rw[hW];exact(Row.new zl _ rfl s_).alloc _
 have HN1:Hid (Row w1 (w.heap.size+3) .u8 80 96):=by rw[hW];exact Row.new z96 _ rfl s_
 have HW:=hd_ hW;clear hW hp;go_enter func159,ntmps159
 go_wp2_with fail;change Code.wp _ _ _ _ ((((w.alloc (.cells (ints .u8 p).toArray 43)).alloc (.cells (ints .u8 z96).toArray 80)).alloc (.cells (ints .u8 zl).toArray 43)).alloc (.cells (ints .u8 z96).toArray 80));rw[<-HW.out];go_loopw [6] (fun v wr=>∃i:Nat,v=.int .i64 i/\i<=3/\Hid (Bl w wr)/\Hid (w.heap.size+4<=wr.heap.size)/\Hid (Row wr w.heap.size .u8 43 32)/\Hid (Row wr (w.heap.size+1) .u8 80 96)/\Hid (Row wr (w.heap.size+2) .u8 43 32)/\Hid (Row wr (w.heap.size+3) .u8 80 96)) (fun v _=>3-(intOf v).toNat)
 case atStart=>exact⟨0,rfl,by omega,HB1,HS1,HP1,HQ1,HU1,HN1⟩
 case round=>
  clear HB1 HS1 HP1 HQ1 HU1 HN1 HW
  obtain⟨wa,rfl⟩:=ex_ (wr)
  obtain⟨i,rfl,hi,HB,HS,HP,HQ,HU,HN⟩:=hrel
  obtain⟨lp,hlp,hBp⟩:=HP.out
  have HLp:=hd_ hlp
  have HBp:=hd_ hBp
  clear hlp hBp
  by_cases hlt:i<3
  · go_wp2_with (refine wpList_load_mid rfl 43 (.tmp 1) rr w.heap.size 0 rr (ints .u8 lp) _ HBp.out.range underlying43 rfl (hi43 HLp.out).out ?_);refine(next_any lp _ HLp.out).mono ?_;rintro _ wb ⟨⟨lq,hlq,rfl⟩,hbb⟩;have HBb:=tb_ HB hbb;have HSb:Hid (w.heap.size+4<=wb.heap.size):=Nat.le_trans HS.out hbb.size;have HPb:=hd_ (HP.out.below hbb HP.out.lt);have HQb:=hd_ (HQ.out.below hbb HQ.out.lt);have HUb:=hd_ (HU.out.below hbb HU.out.lt);have HNb:=hd_ (HN.out.below hbb HN.out.lt);have HLq:=hd_ hlq;(have hi3:(i:Int)<3:=by omega);clear hbb hlq
    go_wp2_with (first
     | (refine store_blk rfl 43 (.tmp 1) (.tmp 10) rr w.heap.size .u8 lq rr rr HPb.out HLq.out (by show _=_;rw[HLq.out];exact info43) ?_;intro wc hBc hgc;have HPc:Hid (Blk wc w.heap.size .u8 43 lq):=hBc;have HBc:Hid (Bl w wc):=HBb.out.grown hgc HBb.out.size (fun k hk=>by cases hk;omega);have HSc:Hid (w.heap.size+4<=wc.heap.size):=Nat.le_trans HSb.out hgc.size;have HQc:=hd_ (HQb.out.grown hgc s_);have HUc:=hd_ (HUb.out.grown hgc s_);have HNc:=hd_ (HNb.out.grown hgc s_);clear hBc hgc;obtain⟨ln,hln,hNn⟩:=HNc.out;have HLn:=hd_ hln;have HNn:=hd_ hNn;clear hln hNn)
     | (refine wpList_load_mid rfl 43 (.tmp 1) rr w.heap.size 0 rr (ints .u8 lq) _ HPc.out.range underlying43 rfl (hi43 HLq.out).out ?_)
     | (refine store_cel rfl 43 (.tmp 13) (.tmp 12) rr (w.heap.size+3) (i*32) 80 (ints .u8 (ln.take (i*32))) (ints .u8 ((ln.drop (i*32)).take 32)) (ints .u8 (ln.drop (i*32+32))) (ints .u8 lq) rr rr (by rw[<-ints_cut];exact HNn.out.cel) (by rw[ints_len,List.length_take,HLn.out];omega) (by rw[ints_len,ints_len,List.length_take,List.length_drop,HLn.out,HLq.out];omega) (hi43 HLq.out).out (all_ints _ _) ?_;intro wd hCd hgd))
    go_roundw;(case rel=>exact⟨i+1,by go_num,by omega,HBc.out.grown hgd HBc.out.size (fun k hk=>by cases hk;omega),Nat.le_trans HSc.out hgd.size,⟨lq,HLq.out,HPc.out.grown hgd s_⟩,HQc.out.grown hgd s_,HUc.out.grown hgd s_,⟨ln.take (i*32)++lq++ln.drop (i*32+32),by simp[HLn.out,HLq.out];omega,Cel.blk (by unfold ints at hCd ⊢;rw[List.map_append,List.map_append];exact hCd)⟩⟩);case measure=>simp[intOf];omega
  · obtain⟨ln,hln,hBn⟩:=HN.out;have HLn:=hd_ hln;have HBn:=hd_ hBn;clear hln hBn;go_wp2_with fail;refine pr_ 0 5 (bt 5 0) fun w1d hw1d=>?_;refine mG ?_;(have hH:(fun w'=>Hid (Blk w' (w.heap.size+3) .u8 80 ln)/\Hid (Blk w' w.heap.size .u8 43 lp)/\Hid (Bl w w')/\Hid (w.heap.size+4<=w'.heap.size)/\Hid (Row w' (w.heap.size+1) .u8 80 96)/\Hid (Row w' (w.heap.size+2) .u8 43 32)) w1d:=by rw[<-hw1d];exact⟨HBn.out.drew,HBp.out.drew,HB.out.drew,HS,HQ.out.drew,HU.out.drew⟩);clear hw1d;refine wpAny_of_last (S:=fun w'=>Hid (Blk w' (w.heap.size+3) .u8 80 ln)/\Hid (Blk w' w.heap.size .u8 43 lp)/\Hid (Bl w w')/\Hid (w.heap.size+4<=w'.heap.size)/\Hid (Row w' (w.heap.size+1) .u8 80 96)/\Hid (Row w' (w.heap.size+2) .u8 43 32)) (ds:=[3,4]) _ _ _ _ ?_;refine ts_ 0 2 3 (bt 5 3) hH ?_;refine mD ?_;(repeat (first|(refine tk_ 80 (.tmp 4) (w.heap.size+3) 0 (ints .u8 ln) (fun _ h=>h.1.out.range) underlying80 rfl (by rw[ints_len,HLn.out];exact info80) ?_)|(refine tk_ 43 (.tmp 1) w.heap.size 0 (ints .u8 lp) (fun _ h=>h.2.1.out.range) underlying43 rfl (hi43 HLp.out).out ?_)|(refine uA ?_)|(refine mB6 ?_)));refine takes_nil ?_;refine one_ (i:=2) (N:=some 17) (bt 5 7) rfl rfl kk dd (fun K hK=>?_);refine goes_ func180 kk rfl #[.agg (ints .u8 lp).toArray] rr rfl rfl mL ?_;refine(next_any lp _ HLp.out).mono ?_;rintro _ wx ⟨⟨lq,hlq,rfl⟩,hbx⟩;refine⟨_,rfl,?_⟩;have HLq:=hd_ hlq;refine hK.out _ _ ⟨hH.1.out.below hbx hH.1.out.lt,hH.2.1.out.below hbx hH.2.1.out.lt,hH.2.2.1.out.trans (hbx.mono hH.2.2.1.out.size),Nat.le_trans hH.2.2.2.1.out hbx.size,hH.2.2.2.2.1.out.below hbx hH.2.2.2.2.1.out.lt,hH.2.2.2.2.2.out.below hbx hH.2.2.2.2.2.out.lt⟩ (fun hH=>?_);clear hK K hlq hbx;refine mN ?_;refine tl_ 3 ?_;refine mF ?_;obtain⟨-,-,HBy,HSy,HQy,HUy⟩:=hH
    go_wp2_with (first
     | (refine store_blk rfl 80 (.tmp 2) (.tmp 15) rr (w.heap.size+1) .u8 ln rr rr HQy.out HLn.out (by show _=_;rw[HLn.out];exact info80) ?_;intro wc hBc hgc;have HQc:Hid (Blk wc (w.heap.size+1) .u8 80 ln):=hBc;have HBc:Hid (Bl w wc):=HBy.out.grown hgc HBy.out.size (fun k hk=>by cases hk;omega);have HUc:=hd_ (HUy.out.grown hgc s_);clear hBc hgc)
     | (refine store_blk rfl 43 (.tmp 3) (.tmp 17) rr (w.heap.size+2) .u8 lq rr rr HUc.out HLq.out (by show _=_;rw[HLq.out];exact info43) ?_;intro wd hBd hgd))
    have hl1:=(HQc.out.grown hgd s_).loads underlying80 rfl (by show _=_;rw[HLn.out];exact info80);have hl2:=hBd.loads underlying43 rfl (by show _=_;rw[HLq.out];exact info43);refine bodyPost_ret (v:=.tuple #[.agg (ints .u8 ln).toArray,.agg (ints .u8 lq).toArray]) (by simp[results,results159,asAddr,Act.put,hl1,hl2]) rfl ⟨⟨ln,lq,HLn.out,HLq.out,rfl⟩,HBc.out.grown hgd HBc.out.size (fun k hk=>by cases hk;omega)⟩
end Go.Proofs.YtppjnahcnofokaaGreat.T
namespace Go.Proofs.YtppjnahcnofokaaGreat.T
open Go.RowKit Go.Proofs.YtppjnahcnofokaaGreatW.PrintLast
open Go.Proofs.Tryz
variable{k:IntKind}{a:Act}{b i n B base m fuel D B':Nat}{l ch p t0 q:List Int}{w w' w1 w2:World}{t:TypeId}{P:Int->Int->Prop}{cs:Array Value}{A A':Option Addr}{o oi:Oper}{e s f st fl:Int}{xs:List (List Int×Int×Int×Int)}{ops:Array Oper}{rest l0:List Oper}{v:Value}{r:Option Nat}{rs rs2:List (Option Addr×Nat×Nat×List Int)}{E:Prop}{vs l3:List Value}{ad ai go:List Bool}{N:Act->Prop}{place:Nat->Option (Nat×Nat)}{bad:Bool}{es es':List (Int×List Int)}{T:List TypeId}{ps:List (List Int)}
theorem vw_arange{k:Int}{t:List Int}(h:VwOk t ad ch)(hC:Cel w b 45 (vw e t ad k ch)):w.rangeAt b 32 (bools ad):=by
 have:=Cel.range (w:=w) (b:=b) (t:=45) (l1:=[.int .i64 e]++ints .i64 t) (l2:=bools ad) (l3:=[.int .i64 k]++ints .u8 ch) (by simpa[vw] using hC);simpa[ints_len,h.tree] using this
theorem vw_lrange{k:Int}{t:List Int}(_h:VwOk t ad ch)(hC:Cel w b 45 (vw e t ad k ch)):w.rangeAt b 1 (ints .i64 (t.take 16)):=
 range_take (vw_trange _h hC) 16
theorem vw_nrange{k:Int}{t:List Int}(_h:VwOk t ad ch)(hC:Cel w b 45 (vw e t ad k ch)):w.rangeAt b 17 (ints .i64 (t.drop 16)):=
 range_drop (vw_trange _h hC) 16
theorem shown_any(e k:Int)(t ch:List Int)(ad:List Bool)(w:World)(h:VwOk t ad ch):Calls prog 114 #[.agg (vw e t ad k ch).toArray] w fun r w'=>∃m,m<=400/\OwnR w m r w'/\Bl w w':=by
 obtain⟨w1,hW⟩:=ex_ (w.alloc (.cells (vw e t ad k ch).toArray 45));have HB1:Hid (Bl w w1):=by rw[hW];exact b0_
 have HC1:Hid (Cel w1 w.heap.size 45 (vw e t ad k ch)):=by rw[hW];exact Cel.new _ rfl rfl
 have hs1:w1.heap.size=w.heap.size+1:=by rw[hW];simp
 have HV:=hd_ h;have HI:Hid ((prog.info? 41).map (·.size)=some (bools ad).length):=by show _=_;rw[bools_len,h.admins];exact info41
 have HI7:Hid ((prog.info? 37).map (·.size)=some (ints .i64 (t.take 16)).length):=by show _=_;rw[ints_len,List.length_take,h.tree];exact info37
 have HT16:Hid ((t.take 16).length=16):=by show _=_;rw[List.length_take,h.tree];rfl
 obtain⟨W2,hW2⟩:=ex_ (w1.alloc (.cells #[.int .i64 e,.int .i64 k] 3));have hb2:=nb_ hW2;have HB2:Hid (Bl w1 W2):=hb2;have HR2:Hid (Rd W2 .i64 (some ⟨w.heap.size+1,0,none⟩) 2 2 [e,k]):=by rw[hW2];exact rd_lit _ .i64 _ _ _ _ _ rfl rfl hs1
 have HW:=hd_ hW;have HW2:=hd_ hW2;have c0:w1.cell? ⟨w.heap.size,0,none⟩=some (.int .i64 e):=(HC1.out.cell 0).trans rfl;have c40:w1.cell? ⟨w.heap.size,40,none⟩=some (.int .i64 k):=(HC1.out.cell 40).trans (vw_k HV.out);rw[HW.out]at c0 c40;clear hW hb2 hW2 h;go_enter func114,ntmps114
 go_wp2_with ((change Calls _ _ _ ((w.alloc (.cells (vw e t ad k ch).toArray 45)).alloc (.cells #[.int .i64 e,.int .i64 k] 3)) _);fail);rw[<-HW.out,<- HW2.out];refine(nums_any _ 2 2 _ _ HR2.out dd).mono ?_;rintro _ w3 ⟨⟨A3,c3,rfl,ho3⟩,hb3⟩;have HB3:=tb_ HB2 hb3;have HC3:=hd_ (HC1.out.below HB3.out HC1.out.lt);have HO3:=hd_ (own_base ho3 HB2.out.size);clear c0 c40 hb3 ho3 HW2 HR2 HB2;go_wp2_with (refine wpList_load_mid rfl 41 (.tmp 15) rr w.heap.size 32 rr (bools ad) _ (vw_arange HV.out HC3.out) underlying41 rfl HI.out ?_);go_loopw [3,17] (fun vx v wr=>∃(i m:Nat) (A3:Option Addr) (c3:Nat),v=.int .i64 i/\vx=.slice A3 m c3/\i<=8/\Hid (m=16+i)/\Hid (OwnB wr w1.heap.size (.slice A3 m c3) m)/\Hid (Bl w1 wr)) (fun _ v _=>8-(intOf v).toNat)
 case atStart=>exact⟨0,2*8,A3,c3,rfl,rfl,Nat.zero_le _,rfl,HO3,HB3⟩
 case round=>
  clear HO3 HB3 HC3
  obtain⟨wa,rfl⟩:=ex_ (wr)
  obtain⟨i,m,A3,c3,rfl,rfl,hi,HM,hO,hb⟩:=hrel
  have hm8:m<=24:=by have:=HM.out;omega
  by_cases hlt:i<8
  · obtain⟨b,hx⟩:=idx41 ad HV.out.admins i hlt wa;have HX:=hd_ hx;clear hx;obtain⟨l3,hl3,hO3⟩:=hO.out
    cases b with
    | false=>
     have hb1:Bl wa (wa.alloc (.cells #[.int .u8 0] 5)):=b0_;have Hb1:=tb_ hb hb1;have HO3:=hd_ (own_below hO3 hb1);have HL3:=hd_ hl3;clear hb1 hO3 hl3;go_wp2_with (first|(refine wpList_index rfl 41 (.tmp 16) (.tmp 17) rfl _ _ _ rr rr HX.out ?_)|(at_builtin;refine append_rg rfl (.tmp 21) (.tmp 23) 31 rfl w1.heap.size 5 1 1 et31 (.slice A3 m c3) m (ints .u8 l3) rfl HO3.out (some ⟨wa.heap.size,0,none⟩) 1 1 (ints .u8 [0]) rfl (rg_one wa 0) ints_one o_ (by unfold maxLen;omega) Hb1.out.size ?_;intro A4 c4 w4 hown4 hgrow hb4 hat));have HO4:Hid (OwnB w4 w1.heap.size (.slice A4 (m+1) c4) (m+1)):=OwnB.app HL3.out rfl hown4;have Hb4:=hd_ (Hb1.out.trans hb4);clear hown4 hgrow hb4 hat;go_wp2_with fail;exact⟨⟨i+1,m+1,A4,c4,by go_num,rfl,by omega,by have:=HM.out;show _=_;omega,HO4,Hb4⟩,by simp[intOf];omega⟩
    | true=>
     have hb1:Bl wa (wa.alloc (.cells #[.int .u8 1] 5)):=b0_;have Hb1:=tb_ hb hb1;have HO3:=hd_ (own_below hO3 hb1);have HL3:=hd_ hl3;clear hb1 hO3 hl3;go_wp2_with (first|(refine wpList_index rfl 41 (.tmp 16) (.tmp 17) rfl _ _ _ rr rr HX.out ?_)|(at_builtin;refine append_rg rfl (.tmp 21) (.tmp 23) 31 rfl w1.heap.size 5 1 1 et31 (.slice A3 m c3) m (ints .u8 l3) rfl HO3.out (some ⟨wa.heap.size,0,none⟩) 1 1 (ints .u8 [1]) rfl (rg_one wa 1) ints_one o_ (by unfold maxLen;omega) Hb1.out.size ?_;intro A4 c4 w4 hown4 hgrow hb4 hat));have HO4:Hid (OwnB w4 w1.heap.size (.slice A4 (m+1) c4) (m+1)):=OwnB.app HL3.out rfl hown4;have Hb4:=hd_ (Hb1.out.trans hb4);clear hown4 hgrow hb4 hat;go_wp2_with fail;exact⟨⟨i+1,m+1,A4,c4,by go_num,rfl,by omega,by have:=HM.out;show _=_;omega,HO4,Hb4⟩,by simp[intOf];omega⟩
  · have HC5:=hd_ (HC1.out.below hb.out HC1.out.lt);obtain⟨l3,hl3,hO3⟩:=hO.out;have HO3:=hd_ hO3;have HL3:=hd_ hl3;have HR5:Hid (Rd wa .u8 (some ⟨w.heap.size,41,none⟩) 32 32 ch):=⟨HV.out.chain,Nat.le_refl _,fun _=>⟨_,_,rfl,HC5.out.lt,vw_crange HV.out HC5.out⟩⟩;clear hO3 hl3 hO HM
    go_wp2_with (first
     | (at_builtin;refine append_rg rfl (.tmp 26) (.tmp 28) 31 rfl w1.heap.size 5 1 1 et31 (.slice A3 m c3) m (ints .u8 l3) rfl HO3.out (some ⟨w.heap.size,41,none⟩) 32 32 (ints .u8 ch) rfl HR5.out.rg ints_one o_ (by unfold maxLen;omega) hb.out.size ?_;intro A4 c4 w4 hown4 hgrow hb4 hat;have HO4:Hid (OwnB w4 w1.heap.size (.slice A4 (m+32) c4) (m+32)):=OwnB.app HL3.out HV.out.chain hown4;have Hb4:=hd_ (hb.out.trans hb4);have HC6:=hd_ (HC5.out.below hb4 (by have:=HC1.out.lt;exact this));clear hown4 hgrow hb4 hat)
     | (refine wpList_load_mid rfl 37 (.tmp 31) rr w.heap.size 1 rr (ints .i64 (t.take 16)) _ (vw_lrange HV.out HC6.out) underlying37 rfl HI7.out ?_))
    obtain⟨m4,hm4⟩:=ex_ (m+32);(have hm4b:m4<=56:=by omega);rw[<-hm4]at HO4 ⊢;clear hm4;(go_loopw [3,33] (fun vx v wr=>∃(j q:Nat) (A3:Option Addr) (c3:Nat),v=.int .i64 j/\vx=.slice A3 q c3/\j<=8/\q<=56+j*16/\Hid (OwnB wr w1.heap.size (.slice A3 q c3) q)/\Hid (Bl w1 wr)) (fun _ v _=>8-(intOf v).toNat));(case atStart=>exact⟨0,m4,A4,c4,rfl,rfl,Nat.zero_le _,by omega,HO4,Hb4⟩);case round=>
     clear HO3 hb HC5 HC6 HR5 HL3 HO4 Hb4;obtain⟨wb,rfl⟩:=ex_ (wr);obtain⟨j,q,A3,c3,rfl,rfl,hj,hq,hO,hb⟩:=hrel;by_cases hlj:j<8;(· obtain⟨x,y,_,_,hix⟩:=idx37 (t.take 16) HT16.out j hlj wb;have HX:=hd_ hix;clear hix;obtain⟨W4,hW4⟩:=ex_ ((wb.alloc (.cells #[.int .i64 x,.int .i64 y] 36)).alloc (.cells #[.int .i64 x,.int .i64 y] 3));(have hb4:Bl wb W4:=by rw[hW4];exact bal b0_);have HB4:=tb_ hb hb4;have HO4:=hd_ (hO.out.below hb4);(have HR4:Hid (Rd W4 .i64 (some ⟨wb.heap.size+1,0,none⟩) 2 2 [x,y]):=by rw[hW4];exact rd_lit _ .i64 _ _ _ _ _ rfl rfl s_);have HW4:=hd_ hW4;clear hW4 hb4;go_wp2_with (first|(refine wpList_index rfl 37 (.tmp 32) (.tmp 33) rfl _ _ _ rr rr HX.out ?_)|((change Calls _ _ _ ((wb.alloc (.cells #[.int .i64 x,.int .i64 y] 36)).alloc (.cells #[.int .i64 x,.int .i64 y] 3)) _);fail));rw[<-HW4.out];refine(nums_any _ 2 2 _ _ HR4.out dd).mono ?_;rintro _ w5 ⟨⟨A5,c5,rfl,ho5⟩,hb5⟩;have HB5:=tb_ HB4 hb5;obtain⟨l5,hl5⟩:=ho5.rd;have HR5:=hd_ hl5;obtain⟨l3,hl3,hO3⟩:=HO4.out.below hb5;have HO3:=hd_ hO3;have HL3:=hd_ hl3;clear hb5 ho5 hl5 hO3 hl3 HW4 HR4;go_wp2_with (at_builtin;refine append_rg rfl (.tmp 36) (.tmp 42) 31 rfl w1.heap.size 5 1 1 et31 (.slice A3 q c3) q (ints .u8 l3) rfl HO3.out A5 (2*8) c5 (ints .u8 l5) rfl HR5.out.rg ints_one o_ (by unfold maxLen;omega) HB5.out.size ?_;intro A7 c7 w7 hown7 hgrow hb7 hat);have HO7:Hid (OwnB w7 w1.heap.size (.slice A7 (q+2*8) c7) (q+2*8)):=OwnB.app HL3.out HR5.out.len hown7;have HB7:=hd_ (HB5.out.trans hb7);clear hown7 hgrow hb7 hat;go_wp2_with fail;go_roundw;(case rel=>exact⟨j+1,q+2*8,A7,c7,by go_num,rfl,by omega,by omega,HO7,HB7⟩);case measure=>simp[intOf];omega);have HC5:=hd_ (HC1.out.below hb.out HC1.out.lt);have HN5:Hid (Rd wb .i64 (some ⟨w.heap.size,17,none⟩) 15 15 (t.drop 16)):=⟨by rw[List.length_drop,HV.out.tree],Nat.le_refl _,fun _=>⟨_,_,rfl,HC5.out.lt,vw_nrange HV.out HC5.out⟩⟩;go_wp2_with fail;refine(nums_any _ 15 15 _ wb HN5.out dd).mono ?_;rintro _ w5 ⟨⟨A5,c5,rfl,ho5⟩,hb5⟩;have HB5:=tb_ hb hb5;obtain⟨l5,hl5⟩:=ho5.rd;have HR5:=hd_ hl5;obtain⟨l3,hl3,hO3⟩:=hO.out.below hb5;have HO3:=hd_ hO3;have HL3:=hd_ hl3;clear hb5 ho5 hl5 hO3 hl3 hO;go_wp2_with (at_builtin;refine append_rg rfl (.tmp 45) (.tmp 49) 31 rfl w1.heap.size 5 1 1 et31 (.slice A3 q c3) q (ints .u8 l3) rfl HO3.out A5 (15*8) c5 (ints .u8 l5) rfl HR5.out.rg ints_one o_ (by unfold maxLen;omega) HB5.out.size ?_;intro A7 c7 w7 hown7 hgrow hb7 hat);have HO7:Hid (OwnB w7 w1.heap.size (.slice A7 (q+15*8) c7) (q+15*8)):=OwnB.app HL3.out HR5.out.len hown7;have HB7:=hd_ (HB5.out.trans hb7);clear hown7 hgrow hb7 hat;go_ret;exact⟨q+15*8,by omega,⟨A7,c7,rfl,own_base HO7.out HB1.out.size⟩,HB1.out.trans (HB7.out.mono HB1.out.size)⟩
end Go.Proofs.YtppjnahcnofokaaGreat.T
namespace Go.Proofs.YtppjnahcnofokaaGreat.T
open Go.RowKit Go.Proofs.YtppjnahcnofokaaGreatW.PrintLast
open Go.Proofs.Tryz
variable{k:IntKind}{a:Act}{b i n B base m fuel D B':Nat}{l ch p t0 q:List Int}{w w' w1 w2:World}{t:TypeId}{P:Int->Int->Prop}{cs:Array Value}{A A':Option Addr}{o oi:Oper}{e s f st fl:Int}{xs:List (List Int×Int×Int×Int)}{ops:Array Oper}{rest l0:List Oper}{v:Value}{r:Option Nat}{rs rs2:List (Option Addr×Nat×Nat×List Int)}{E:Prop}{vs l3:List Value}{ad ai go:List Bool}{N:Act->Prop}{place:Nat->Option (Nat×Nat)}{bad:Bool}{es es':List (Int×List Int)}{T:List TypeId}{ps:List (List Int)}
structure WlP where
 lf:Int
 fr:Int
 e:Int
 k:Int
 t:List Int
 ch:List Int
 ad:List Bool
 X:Value
 tag:List Int
def wlC(x:WlP):List Value:=[.int .i64 x.lf,.int .i64 x.fr]++vw x.e x.t x.ad x.k x.ch++([x.X]++ints .u8 x.tag)
structure WlOk (w:World) (x:WlP):Prop where
 vw:VwOk x.t x.ad x.ch
 tag:x.tag.length=32
 box:∃A n c l,x.X=.slice A n c/\Rd w .u8 A n c l/\n<=1000
theorem WlOk.below{x:WlP}(h:WlOk w x)(hb:Bl w w'):WlOk w' x:=by
 obtain⟨h1,h2,A,n,c,l,e,h3,h4⟩:=h;exact⟨h1,h2,A,n,c,l,e,h3.below hb,h4⟩
theorem wl_len{x:WlP}(h:VwOk x.t x.ad x.ch)(h2:x.tag.length=32):(wlC x).length=108:=by simp[wlC,vw_len h,ints_len,h2]
theorem info137:(prog.info? 137).map (·.size)=some 108:=by kernel_rfl
theorem wl_hi{x:WlP}(h:VwOk x.t x.ad x.ch)(h2:x.tag.length=32):(prog.info? 137).map (·.size)=some (wlC x).length:=by rw[wl_len h h2];exact info137
theorem wl_one{x:WlP}(h:WlOk w x):∀v ∈ wlC x,v.oneCell'=true:=by
 obtain⟨h1,h2,A,n,c,l,e,h3,h4⟩:=h;intro v hv;simp only[wlC,e,List.mem_append,List.mem_cons,List.not_mem_nil,or_false]at hv;rcases hv with((rfl|rfl)|hv)|rfl|hv
 · rfl
 · rfl
 · exact vw_all _ _ _ _ _ v hv
 · rfl
 simp only[ints,List.mem_map]at hv;obtain⟨y,_,rfl⟩:=hv;rfl
theorem wl_view{x:WlP}(h:Cel w b 137 (wlC x)):w.rangeAt b 2 (vw x.e x.t x.ad x.k x.ch):=
 Cel.range (l1:=[.int .i64 x.lf,.int .i64 x.fr]) (l3:=[x.X]++ints .u8 x.tag) h
theorem wl_X{x:WlP}(h:VwOk x.t x.ad x.ch):(wlC x)[75]? = some x.X:=by
 simp[wlC,List.getElem?_append,vw_len h]
theorem wl_trd{x:WlP}(h:Cel w b 137 (wlC x))(hv:VwOk x.t x.ad x.ch)(ht:x.tag.length=32):Rd w .u8 (some ⟨b,76,none⟩) 32 32 x.tag:=
 ⟨ht,Nat.le_refl _,fun _=>⟨b,76,rfl,h.lt,by
  have:=Cel.range (w:=w) (b:=b) (t:=137) (l1:=[.int .i64 x.lf,.int .i64 x.fr]++vw x.e x.t x.ad x.k x.ch ++ [x.X]) (l2:=ints .u8 x.tag) (l3:=[]) (by simpa[wlC] using h)
  simpa[vw_len hv] using this⟩⟩
theorem Cel.wlload{x:WlP}(h:Cel w b 137 (wlC x))(hv:VwOk x.t x.ad x.ch)(ht:x.tag.length=32):(loadVar 137 ⟨b,0,none⟩).run prog w=.ok (.agg (wlC x).toArray) w:=run_loadVar_mid (P:=prog) _ _ 0 137 (wlC x) _ h.all underlying137 rfl (wl_hi hv ht)
def zwl:WlP:=⟨0,0,0,0,z31,z32,zb,.slice none 0 0,zl⟩
end Go.Proofs.YtppjnahcnofokaaGreat.T
namespace Go.Proofs.YtppjnahcnofokaaGreat.T
open Go.RowKit Go.Proofs.YtppjnahcnofokaaGreatW.PrintLast
open Go.Proofs.Tryz
variable{k:IntKind}{a:Act}{b i n B base m fuel D B':Nat}{l ch p t0 q:List Int}{w w' w1 w2:World}{t:TypeId}{P:Int->Int->Prop}{cs:Array Value}{A A':Option Addr}{o oi:Oper}{e s f st fl:Int}{xs:List (List Int×Int×Int×Int)}{ops:Array Oper}{rest l0:List Oper}{v:Value}{r:Option Nat}{rs rs2:List (Option Addr×Nat×Nat×List Int)}{E:Prop}{vs l3:List Value}{ad ai go:List Bool}{N:Act->Prop}{place:Nat->Option (Nat×Nat)}{bad:Bool}{es es':List (Int×List Int)}{T:List TypeId}{ps:List (List Int)}
structure PyP where
 e:Int
 k:Int
 t:List Int
 ch:List Int
 ad:List Bool
 lf:Int
 G:Value
 ow:List Int
 hs:List Bool
 nd:List Int
 ep:List Int
 it:List Int
def pyC(x:PyP):List Value:=vw x.e x.t x.ad x.k x.ch++([.int .i64 x.lf,x.G])++(ints .u8 x.ow)++(bools x.hs)++(ints .u8 x.nd)++(ints .u8 x.ep)++(ints .u8 x.it)
structure PyOk (x:PyP):Prop where
 vw:VwOk x.t x.ad x.ch
 ow:x.ow.length=32
 hs:x.hs.length=3
 nd:x.nd.length=96
 ep:x.ep.length=32
 it:x.it.length=32
 lf:0<=x.lf/\x.lf<8
 G:∃a,x.G=.pointer a
variable{x:PyP}
theorem py_len(h:PyOk x):(pyC x).length=270:=by simp[pyC,vw_len h.vw,ints_len,bools_len,h.ow,h.hs,h.nd,h.ep,h.it]
theorem info82:(prog.info? 82).map (·.size)=some 270:=by kernel_rfl
theorem py_hi(h:PyOk x):(prog.info? 82).map (·.size)=some (pyC x).length:=by rw[py_len h];exact info82
theorem ints_one8(k:IntKind)(l:List Int):∀v ∈ ints k l,v.oneCell'=true:=by
 intro v hv;simp only[ints,List.mem_map]at hv;obtain⟨y,_,rfl⟩:=hv;rfl
theorem py_one(h:PyOk x):∀v ∈ pyC x,v.oneCell'=true:=by
 obtain⟨a,ha⟩:=h.G;intro v hv;simp only[pyC,List.mem_append,List.mem_cons,List.not_mem_nil,or_false]at hv;rcases hv with(((((hv|rfl|rfl)|hv)|hv)|hv)|hv)|hv
 · exact vw_all _ _ _ _ _ v hv
 · rfl
 · rw[ha];rfl
 · exact ints_one8 _ _ v hv
 · exact bools_one _ v hv
 · exact ints_one8 _ _ v hv
 · exact ints_one8 _ _ v hv
 exact ints_one8 _ _ v hv
theorem py_sp0(x:PyP):pyC x=([])++(vw x.e x.t x.ad x.k x.ch)++([.int .i64 x.lf,x.G]++(ints .u8 x.ow)++(bools x.hs)++(ints .u8 x.nd)++(ints .u8 x.ep)++(ints .u8 x.it)):=by simp[pyC]
theorem py_l0(h:PyOk x):(([]:List Value)).length=0:=by simp[vw_len h.vw,ints_len,bools_len,h.ow,h.hs,h.nd,h.ep,h.it]
theorem py_rg0(h:PyOk x)(hC:Cel w b 82 (pyC x)):w.rangeAt b 0 (vw x.e x.t x.ad x.k x.ch):=by
 have:=Cel.range (w:=w) (b:=b) (t:=82) (by have:=hC;rwa [py_sp0]at this);rwa [py_l0 h]at this
theorem py_sp2(x:PyP):pyC x=(vw x.e x.t x.ad x.k x.ch++([.int .i64 x.lf,x.G]))++(ints .u8 x.ow)++(bools x.hs++(ints .u8 x.nd)++(ints .u8 x.ep)++(ints .u8 x.it)):=by simp[pyC]
theorem py_l2(h:PyOk x):(vw x.e x.t x.ad x.k x.ch++([.int .i64 x.lf,x.G])).length=75:=by simp[vw_len h.vw,ints_len,bools_len,h.ow,h.hs,h.nd,h.ep,h.it]
theorem py_rg2(h:PyOk x)(hC:Cel w b 82 (pyC x)):w.rangeAt b 75 (ints .u8 x.ow):=by
 have:=Cel.range (w:=w) (b:=b) (t:=82) (by have:=hC;rwa [py_sp2]at this);rwa [py_l2 h]at this
theorem py_sp3(x:PyP):pyC x=(vw x.e x.t x.ad x.k x.ch++([.int .i64 x.lf,x.G])++(ints .u8 x.ow))++(bools x.hs)++(ints .u8 x.nd++(ints .u8 x.ep)++(ints .u8 x.it)):=by simp[pyC]
theorem py_l3(h:PyOk x):(vw x.e x.t x.ad x.k x.ch++([.int .i64 x.lf,x.G])++(ints .u8 x.ow)).length=107:=by simp[vw_len h.vw,ints_len,bools_len,h.ow,h.hs,h.nd,h.ep,h.it]
theorem py_sp4(x:PyP):pyC x=(vw x.e x.t x.ad x.k x.ch++([.int .i64 x.lf,x.G])++(ints .u8 x.ow)++(bools x.hs))++(ints .u8 x.nd)++(ints .u8 x.ep++(ints .u8 x.it)):=by simp[pyC]
theorem py_l4(h:PyOk x):(vw x.e x.t x.ad x.k x.ch++([.int .i64 x.lf,x.G])++(ints .u8 x.ow)++(bools x.hs)).length=110:=by simp[vw_len h.vw,ints_len,bools_len,h.ow,h.hs,h.nd,h.ep,h.it]
theorem py_rg4(h:PyOk x)(hC:Cel w b 82 (pyC x)):w.rangeAt b 110 (ints .u8 x.nd):=by
 have:=Cel.range (w:=w) (b:=b) (t:=82) (by have:=hC;rwa [py_sp4]at this);rwa [py_l4 h]at this
theorem py_sp5(x:PyP):pyC x=(vw x.e x.t x.ad x.k x.ch++([.int .i64 x.lf,x.G])++(ints .u8 x.ow)++(bools x.hs)++(ints .u8 x.nd))++(ints .u8 x.ep)++(ints .u8 x.it):=by simp[pyC]
theorem py_l5(h:PyOk x):(vw x.e x.t x.ad x.k x.ch++([.int .i64 x.lf,x.G])++(ints .u8 x.ow)++(bools x.hs)++(ints .u8 x.nd)).length=206:=by simp[vw_len h.vw,ints_len,bools_len,h.ow,h.hs,h.nd,h.ep,h.it]
theorem py_rg5(h:PyOk x)(hC:Cel w b 82 (pyC x)):w.rangeAt b 206 (ints .u8 x.ep):=by
 have:=Cel.range (w:=w) (b:=b) (t:=82) (by have:=hC;rwa [py_sp5]at this);rwa [py_l5 h]at this
theorem py_sp6(x:PyP):pyC x=(vw x.e x.t x.ad x.k x.ch++([.int .i64 x.lf,x.G])++(ints .u8 x.ow)++(bools x.hs)++(ints .u8 x.nd)++(ints .u8 x.ep))++(ints .u8 x.it)++([]):=by simp[pyC]
theorem py_l6(h:PyOk x):(vw x.e x.t x.ad x.k x.ch++([.int .i64 x.lf,x.G])++(ints .u8 x.ow)++(bools x.hs)++(ints .u8 x.nd)++(ints .u8 x.ep)).length=238:=by simp[vw_len h.vw,ints_len,bools_len,h.ow,h.hs,h.nd,h.ep,h.it]
theorem py_rg6(h:PyOk x)(hC:Cel w b 82 (pyC x)):w.rangeAt b 238 (ints .u8 x.it):=by
 have:=Cel.range (w:=w) (b:=b) (t:=82) (by have:=hC;rwa [py_sp6]at this);rwa [py_l6 h]at this
theorem py_lf(h:PyOk x):(pyC x)[73]? = some (.int .i64 x.lf):=by
 simp[pyC,List.getElem?_append,vw_len h.vw]
theorem py_G(h:PyOk x):(pyC x)[74]? = some x.G:=by
 simp[pyC,List.getElem?_append,vw_len h.vw]
structure PyAt (w:World) (b:Nat) (x:PyP) (g:Nat) (s:Int):Prop where
 cel:Cel w b 82 (pyC x)
 ok:PyOk x
 G:x.G=.pointer (some ⟨g,0,none⟩)
 key:KeyAt w g s
theorem PyAt.below{g:Nat}(h:PyAt w b x g s)(hb:Bl w w'):PyAt w' b x g s:=⟨h.cel.below hb h.cel.lt,h.ok,h.G,h.key.below hb h.key.lt⟩
theorem copy_any(b:Nat)(x:PyP)(w:World)(hc:Cel w b 82 (pyC x))(hok:PyOk x):Calls prog 26 #[.pointer (some ⟨b,0,none⟩)] w fun r w'=>r=.returned (.pointer (some ⟨w.heap.size,0,none⟩))/\Cel w' w.heap.size 82 (pyC x)/\Bl w w':=by
 have HC:=hd_ hc;have HOk:=hd_ hok;have hall:=hd_ (all_oneCell_toArray (py_one hok));obtain⟨l0,hl0,hlen⟩:∃l0:List Value,Tryz.zeroCells82=l0.toArray/\l0.length=270:=⟨Tryz.zeroCells82.toList,by simp,by kernel_rfl⟩;have HZ:Hid (Cel (w.alloc (.cells Tryz.zeroCells82 82)) w.heap.size 82 l0):=Cel.new _ rfl hl0;have HN:=hd_ hlen;clear hc hok hl0 hlen;go_enter func26,ntmps26
 go_wp2_with (first
  | (refine wpList_load_mid rfl 82 (.tmp 7) rr b 0 rr (pyC x) _ HC.out.all underlying82 rfl (py_hi HOk.out) ?_)
  | (refine store_cel rfl 82 (.tmp 3) (.tmp 8) rr w.heap.size 0 82 [] l0 [] (pyC x) rr rr (by simpa using HZ.out) rfl (by rw[HN.out,py_len HOk.out]) (py_hi HOk.out) hall.out ?_;intro w2 hC2 hg2))
 go_ret;exact⟨rfl,by simpa using hC2,b0_.grown hg2 s_ (fun k hk=>by cases hk;omega)⟩
theorem copy_nil(w:World):Calls prog 26 #[.pointer none] w fun r w'=>r=.returned (.pointer none)/\w=w':=by
 go_enter func26,ntmps26
 go_wp2;go_ret;exact⟨rfl,rfl⟩
theorem view_p_any(b:Nat)(x:PyP)(w:World)(hc:Cel w b 82 (pyC x))(hok:PyOk x):Calls prog 10 #[.pointer (some ⟨b,0,none⟩)] w fun r w'=>r=.returned (.agg (vw x.e x.t x.ad x.k x.ch).toArray)/\Bl w w':=by
 have HC:=hd_ (hc.below (bal (o:=.cells zvw.toArray 45) (Below.refl _ _)) hc.lt);have HK:=hd_ hok;have HZ:Hid (Cel (w.alloc (.cells zvw.toArray 45)) w.heap.size 45 zvw):=Cel.new _ rfl rfl;clear hc hok;go_enter func10,ntmps10
 go_wp2_with (first
  | ((change wpList _ _ _ _ _ (w.alloc (.cells zvw.toArray 45)));refine wpList_load_mid rfl 45 (.tmp 8) rr b 0 rr (vw x.e x.t x.ad x.k x.ch) _ (py_rg0 HK.out HC.out) underlying45 rfl (vw_hi HK.out.vw) ?_)
  | ((change wpList _ _ _ _ _ (w.alloc (.cells zvw.toArray 45)));refine store_cel rfl 45 (.tmp 2) (.tmp 9) rr w.heap.size 0 45 [] zvw [] (vw x.e x.t x.ad x.k x.ch) rr rr (by simpa using HZ.out) rfl (by rw[vw_len HK.out.vw,zvw,vw_len zvOk]) (vw_hi HK.out.vw) (all_oneCell_toArray (vw_all _ _ _ _ _)) ?_;intro w2 hC2 hg2))
 have hload:=Cel.vload (show Cel w2 w.heap.size 45 (vw x.e x.t x.ad x.k x.ch) by simpa using hC2) HK.out.vw;refine bodyPost_ret (v:=.agg (vw x.e x.t x.ad x.k x.ch).toArray) (by simp[results,results10,asAddr,Act.put,hload]) rfl ⟨rfl,b0_.grown hg2 s_ (fun k hk=>by cases hk;omega)⟩
theorem leaf_p_any(b:Nat)(x:PyP)(w:World)(hc:Cel w b 82 (pyC x))(hok:PyOk x):Calls prog 15 #[.pointer (some ⟨b,0,none⟩)] w fun r w'=>r=.returned (.int .i64 x.lf)/\w=w':=by
 have c:=(hc.cell 73).trans (py_lf hok);clear hc hok;go_enter func15,ntmps15
 go_wp2;go_ret;exact⟨rfl,rfl⟩
theorem signer_p_any(b:Nat)(x:PyP)(w:World)(hc:Cel w b 82 (pyC x))(hok:PyOk x):Calls prog 62 #[.pointer (some ⟨b,0,none⟩)] w fun r w'=>r=.returned x.G/\w=w':=by
 have c:=(hc.cell 74).trans (py_G hok);clear hc hok;go_enter func62,ntmps62
 go_wp2;go_ret;exact⟨rfl,rfl⟩
theorem idx3(a b c:Int)(i:Nat)(hi:i<3)(w:World):∃x,(x=a\/x=b\/x=c)/\(Instr.index 128 (.agg #[.int .i64 a,.int .i64 b,.int .i64 c]) (.int .i64 (i:Int))).run prog w=.ok (.int .i64 x) w:=by
 rcases(show i=0\/i=1\/i=2 by omega) with rfl|rfl|rfl
 · exact⟨a,.inl rfl,by kernel_rfl⟩
 · exact⟨b,.inr (.inl rfl),by kernel_rfl⟩
 exact⟨c,.inr (.inr rfl),by kernel_rfl⟩
theorem place_any(x y:Int)(w:World):Calls prog 124 #[.int .i64 x,.int .i64 y] w fun r w'=>(∃i:Nat,i<3/\r=.returned (.int .i64 i))/\Bl w w':=by
 go_enter func124,ntmps124
 go_wp2_with fail;refine(common_any x y w).mono ?_;rintro _ w1 ⟨⟨z,rfl⟩,rfl⟩;go_wp2_with fail;refine(path_any x w).mono ?_;rintro _ w2 ⟨⟨a,b,c,-,-,-,rfl⟩,hb2⟩;have HB2:=hd_ hb2;clear hb2;go_wp2_with fail;go_loopw [13] (fun v wr=>∃i:Nat,v=.int .i64 i/\i<=3/\w2=wr) (fun v _=>3-(intOf v).toNat)
 case atStart=>exact⟨0,rfl,by omega,rfl⟩
 case round=>
  obtain⟨i,rfl,hi,rfl⟩:=hrel;by_cases hlt:i<3
  · obtain⟨q,-,hx⟩:=idx3 a b c i hlt w2;have HX:=hd_ hx;clear hx;by_cases hq:q=z;(· subst hq;go_wp2_with (refine wpList_index rfl 128 (.tmp 12) (.tmp 13) rfl _ _ _ rr rr HX.out ?_);go_ret;exact⟨⟨i,hlt,rfl⟩,HB2.out⟩);go_wp2_with (refine wpList_index rfl 128 (.tmp 12) (.tmp 13) rfl _ _ _ rr rr HX.out ?_);go_roundw;(case rel=>exact⟨i+1,by go_num,by omega,trivial⟩);case measure=>simp[intOf];omega
  go_wp2_with fail;go_ret;exact⟨⟨0,by omega,rfl⟩,HB2.out⟩
theorem signed_any(x:CmP)(w:World)(h:CmOk w x):Calls prog 107 #[.agg (cmC x).toArray] w fun r w'=>∃m,m<=13000/\OwnR w m r w'/\Bl w w':=by
 obtain⟨w1,hW⟩:=ex_ (w.alloc (.cells (cmC x).toArray 130));have hb1:=nb_ hW;have HC1:Hid (Cel w1 w.heap.size 130 (cmC x)):=by rw[hW];exact Cel.new _ rfl rfl
 have HB1:=hd_ hb1;have HM1:=hd_ (h.below hb1);have HT:=hd_ h.tag;have hHI:=hd_ (cm_hi h.tag);have HW:=hd_ hW;clear hW hb1 h;go_enter func107,ntmps107
 go_wp2_with fail;refine pr_ 0 6 (bt 6 0) fun w1d hw1d=>?_;refine mG ?_;have hH:(fun w'=>Hid (Cel w' w.heap.size 130 (cmC x))/\Hid (CmOk w' x)/\Hid (Bl w1 w')) w1d:=by rw[<-hw1d,<- HW.out];exact⟨HC1.out.drew,HM1.out.below (Below.refl _ _).drew,(Below.refl _ _).drew⟩
 clear hw1d;refine wpAny_of_last (S:=fun w'=>Hid (Cel w' w.heap.size 130 (cmC x))/\Hid (CmOk w' x)/\Hid (Bl w1 w')) (ds:=[4,5]) _ _ _ _ ?_;refine ts_ 0 1 5 (bt 6 1) hH ?_;refine mD ?_;repeat (first|(refine tk_ 130 (.tmp 1) w.heap.size 0 (cmC x) (fun _ h=>h.1.out.all) underlying130 rfl hHI.out ?_)|(refine uA ?_)|(refine mB3 ?_))
 refine takes_nil ?_;refine ts_ 2 2 3 (bt 6 13) hH ?_;refine mD ?_;repeat (first|(refine tk_ 130 (.tmp 1) w.heap.size 0 (cmC x) (fun _ h=>h.1.out.all) underlying130 rfl hHI.out ?_)|(refine uA ?_)|(refine mB3 ?_))
 refine takes_nil ?_;refine one_ (i:=1) (N:=some 4) (bt 6 15) rfl rfl kk dd (fun K hK=>?_);refine goes_ func111 kk rfl #[.agg (cmC x).toArray] rr rfl rfl mL ?_;refine(body_any x _ hH.2.1.out).mono ?_;rintro _ wx ⟨mx,hmx,⟨Ax,cx,rfl,hox⟩,hbx⟩;refine⟨_,rfl,?_⟩;have HOx:=hd_ (own_base hox hH.2.2.out.size);refine hK.out _ _ ⟨hH.1.out.below hbx hH.1.out.lt,hH.2.1.out.below hbx,hH.2.2.out.trans (hbx.mono hH.2.2.out.size)⟩ (fun hH=>?_);clear hK K hox hbx;refine mN ?_;refine tl_ 4 ?_;refine mF ?_;obtain⟨HCx,-,HBx⟩:=hH;obtain⟨l3,hl3,hO3⟩:=HOx.out;have HO3:=hd_ hO3;have HL3:=hd_ hl3;have HR3:Hid (Rd wx .u8 (some ⟨w.heap.size,9,none⟩) 32 32 x.tag):=cm_trd HCx.out HT.out;clear hO3 hl3;go_wp2_with (at_builtin;refine append_rg rfl (.tmp 4) (.tmp 6) 31 rfl w1.heap.size 5 1 1 et31 (.slice Ax mx cx) mx (ints .u8 l3) rfl HO3.out (some ⟨w.heap.size,9,none⟩) 32 32 (ints .u8 x.tag) rfl HR3.out.rg ints_one o_ (by unfold maxLen;omega) HBx.out.size ?_;intro A7 c7 w7 hown7 hgrow hb7 hat);have HO7:Hid (OwnB w7 w1.heap.size (.slice A7 (mx+32) c7) (mx+32)):=OwnB.app HL3.out HR3.out.len hown7;have HB7:=hd_ (HBx.out.trans hb7);clear hown7 hgrow hb7 hat;go_wp2_with fail;go_ret;exact⟨mx+32,by omega,⟨A7,c7,rfl,own_base HO7.out HB1.out.size⟩,HB1.out.trans (HB7.out.mono HB1.out.size)⟩
theorem joined_any(p q:List Int)(w:World)(hp:p.length=32)(hq:q.length=32):Calls prog 105 #[.agg (ints .u8 p).toArray,.agg (ints .u8 q).toArray] w fun r w'=>IsH r/\Bl w w':=by
 obtain⟨w1,hW⟩:=ex_ (((w.alloc (.cells (ints .u8 p).toArray 43)).alloc (.cells (ints .u8 q).toArray 43)).alloc (.cells (ints .u8 zl).toArray 43));have HB1:Hid (Bl w w1):=by rw[hW];exact bal (bal b0_)
 have HP1:Hid (Blk w1 w.heap.size .u8 43 p):=by rw[hW];exact((blk_new w .u8 43 p _ rfl).below b0_ s_).below b0_ s1_
 have HQ1:Hid (Blk w1 (w.heap.size+1) .u8 43 q):=by rw[hW];exact(blk_new _ .u8 43 q _ s_).below b0_ s_
 have HZ1:Hid (Row w1 (w.heap.size+2) .u8 43 32):=by rw[hW];exact Row.new zl _ rfl s_
 have hs1:w.heap.size+3<=w1.heap.size:=by rw[hW];simp
 have HPp:=hd_ hp;have HQq:=hd_ hq;have HW:=hd_ hW;clear hW hp hq;go_enter func105,ntmps105
 go_wp2_with fail;refine pr_ 0 5 (bt 5 0) fun w1d hw1d=>?_;refine mG ?_;have hH:(fun w'=>Hid (Blk w' w.heap.size .u8 43 p)/\Hid (Blk w' (w.heap.size+1) .u8 43 q)/\Hid (Row w' (w.heap.size+2) .u8 43 32)/\Hid (Bl w1 w')) w1d:=by rw[<-hw1d];exact(show(fun w'=>Hid (Blk w' w.heap.size .u8 43 p)/\Hid (Blk w' (w.heap.size+1) .u8 43 q)/\Hid (Row w' (w.heap.size+2) .u8 43 32)/\Hid (Bl w1 w')) (((w.alloc (.cells (ints .u8 p).toArray 43)).alloc (.cells (ints .u8 q).toArray 43)).alloc (.cells (ints .u8 zl).toArray 43)).drew from by rw[<-HW.out];exact⟨HP1.out.drew,HQ1.out.drew,HZ1.out.drew,(Below.refl _ _).drew⟩)
 clear hw1d;refine wpAny_of_last (S:=fun w'=>Hid (Blk w' w.heap.size .u8 43 p)/\Hid (Blk w' (w.heap.size+1) .u8 43 q)/\Hid (Row w' (w.heap.size+2) .u8 43 32)/\Hid (Bl w1 w')) (ds:=[4]) _ _ _ _ ?_;refine ts_ 0 2 3 (bt 5 3) hH ?_;refine mD ?_;repeat (first|(refine tk_ 43 (.tmp 2) w.heap.size 0 (ints .u8 p) (fun _ h=>h.1.out.range) underlying43 rfl (hi43 HPp.out).out ?_)|(refine uA ?_)|(refine mB4 ?_))
 refine takes_nil ?_;refine one_ (i:=2) (N:=some 7) (bt 5 7) rfl rfl kk dd (fun K hK=>?_);obtain⟨wy,hwy⟩:=ex_ (w1d.alloc (.cells #[.slice (some ⟨w.heap.size+1,0,none⟩) 32 32] 31));refine value_ rr rfl (v:=.slice (some ⟨w1d.heap.size,0,none⟩) 1 1) (w1:=wy) (by rw[hwy];first|done|go_simp) ?_;have hby:=nb_ hwy;have HRR:Hid (RdR wy (some ⟨w1d.heap.size,0,none⟩) 1 1 60000 [(some ⟨w.heap.size+1,0,none⟩,32,32,q)]):=by rw[hwy];exact rdr_new w1d [(some ⟨w.heap.size+1,0,none⟩,32,32,q)] _ 1 rfl rfl (fun r hr=>by simp at hr;subst hr;exact⟨rd_blk hH.2.1.out HQq.out,by show 32<=_;omega⟩)
 refine hK.out _ _ ⟨hH.1.out.below hby hH.1.out.lt,hH.2.1.out.below hby hH.2.1.out.lt,hH.2.2.1.out.below hby hH.2.2.1.out.lt,hH.2.2.2.out.trans (hby.mono hH.2.2.2.out.size)⟩ (fun hH=>?_);clear hK K hwy hby;refine mN ?_;refine one_ (i:=3) (N:=some 8) (bt 5 15) rfl rfl kk dd (fun K hK=>?_);refine goes_ func37 kk rfl #[.agg (ints .u8 p).toArray,.string ⟨#[106,111,105,110,116]⟩,.slice (some ⟨w1d.heap.size,0,none⟩) 1 1] rr rfl rfl mL ?_;refine(derive_any p _ _ 1 1 _ _ HPp.out dd HRR.out o_).mono ?_;rintro _ wx ⟨⟨lz,hlz,rfl⟩,hbx⟩;refine⟨_,rfl,?_⟩;have HLz:=hd_ hlz;refine hK.out _ _ ⟨hH.1.out.below hbx hH.1.out.lt,hH.2.1.out.below hbx hH.2.1.out.lt,hH.2.2.1.out.below hbx hH.2.2.1.out.lt,hH.2.2.2.out.trans (hbx.mono hH.2.2.2.out.size)⟩ (fun hH=>?_);clear hK K hlz hbx;refine mN ?_;refine tl_ 4 ?_;refine mF ?_;obtain⟨-,-,HZx,HBx⟩:=hH;go_wp2_with (refine store_blk rfl 43 (.tmp 4) (.tmp 8) rr (w.heap.size+2) .u8 lz rr rr HZx.out HLz.out (by show _=_;rw[HLz.out];exact info43) ?_;intro w4 hB4 hg4);have hload:=hB4.loads underlying43 rfl (by show _=_;rw[HLz.out];exact info43);refine bodyPost_ret (v:=.agg (ints .u8 lz).toArray) (by simp[results,results105,asAddr,Act.put,hload]) rfl ⟨⟨lz,HLz.out,rfl⟩,(HB1.out.trans (HBx.out.mono HB1.out.size)).grown hg4 (HB1.out.trans (HBx.out.mono HB1.out.size)).size (fun k hk=>by cases hk;omega)⟩
theorem chained_any(e k:Int)(t ch:List Int)(ad:List Bool)(x:CmP)(w:World)(hv:VwOk t ad ch)(h:CmOk w x):Calls prog 104 #[.agg (vw e t ad k ch).toArray,.agg (cmC x).toArray] w fun r w'=>IsH r/\Bl w w':=by
 obtain⟨w1,hW⟩:=ex_ (((w.alloc (.cells (vw e t ad k ch).toArray 45)).alloc (.cells (cmC x).toArray 130)).alloc (.cells (ints .u8 zl).toArray 43));have hb1:Bl w w1:=by rw[hW];exact bal (bal b0_)
 have HP1:Hid (Cel w1 w.heap.size 45 (vw e t ad k ch)):=by rw[hW];exact((Cel.new _ rfl rfl).alloc _).alloc _
 have HC1:Hid (Cel w1 (w.heap.size+1) 130 (cmC x)):=by rw[hW];exact(Cel.new _ s_ rfl).alloc _
 have HZ1:Hid (Row w1 (w.heap.size+2) .u8 43 32):=by rw[hW];exact Row.new zl _ rfl s_
 have hs1:w.heap.size+3<=w1.heap.size:=by rw[hW];simp
 have HM1:=hd_ (h.below hb1);have HB1:=hd_ hb1;have HV:=hd_ hv;have hHI:=hd_ (cm_hi h.tag);have HW:=hd_ hW;clear hW hb1 hv h;go_enter func104,ntmps104
 go_wp2_with fail;refine pr_ 0 7 (bt 7 0) fun w1d hw1d=>?_;refine mG ?_;have hH:(fun w'=>Hid (Cel w' w.heap.size 45 (vw e t ad k ch))/\Hid (Cel w' (w.heap.size+1) 130 (cmC x))/\Hid (CmOk w' x)/\Hid (Row w' (w.heap.size+2) .u8 43 32)/\Hid (Bl w1 w')) w1d:=by rw[<-hw1d];exact(show(fun w'=>Hid (Cel w' w.heap.size 45 (vw e t ad k ch))/\Hid (Cel w' (w.heap.size+1) 130 (cmC x))/\Hid (CmOk w' x)/\Hid (Row w' (w.heap.size+2) .u8 43 32)/\Hid (Bl w1 w')) (((w.alloc (.cells (vw e t ad k ch).toArray 45)).alloc (.cells (cmC x).toArray 130)).alloc (.cells (ints .u8 zl).toArray 43)).drew from by rw[<-HW.out];exact⟨HP1.out.drew,HC1.out.drew,HM1.out.below (Below.refl _ _).drew,HZ1.out.drew,(Below.refl _ _).drew⟩)
 clear hw1d;refine wpAny_of_last (S:=fun w'=>Hid (Cel w' w.heap.size 45 (vw e t ad k ch))/\Hid (Cel w' (w.heap.size+1) 130 (cmC x))/\Hid (CmOk w' x)/\Hid (Row w' (w.heap.size+2) .u8 43 32)/\Hid (Bl w1 w')) (ds:=[6]) _ _ _ _ ?_;refine ts_ 0 3 4 (bt 7 7) hH ?_;refine mD ?_;repeat (first|(refine tk_ 43 (.tmp 5) w.heap.size 41 (ints .u8 ch) (fun _ h=>vw_crange HV.out h.1.out) underlying43 rfl (hi43 HV.out.chain).out ?_)|(refine tk_ 130 (.tmp 3) (w.heap.size+1) 0 (cmC x) (fun _ h=>h.2.1.out.all) underlying130 rfl hHI.out ?_)|(refine uA ?_)|(refine mB5 ?_))
 refine takes_nil ?_;refine one_ (i:=3) (N:=some 8) (bt 7 15) rfl rfl kk dd (fun K hK=>?_);refine goes_ func111 kk rfl #[.agg (cmC x).toArray] rr rfl rfl mL ?_;refine(body_any x _ hH.2.2.1.out).mono ?_;rintro _ wx ⟨mx,hmx,⟨Ax,cx,rfl,hox⟩,hbx⟩;refine⟨_,rfl,?_⟩;have HOx:=hd_ hox;refine hK.out _ _ ⟨hH.1.out.below hbx hH.1.out.lt,hH.2.1.out.below hbx hH.2.1.out.lt,hH.2.2.1.out.below hbx,hH.2.2.2.1.out.below hbx hH.2.2.2.1.out.lt,hH.2.2.2.2.out.trans (hbx.mono hH.2.2.2.2.out.size)⟩ (fun hH=>?_);clear hK K hox hbx;refine mN ?_;refine one_ (i:=4) (N:=some 9) (bt 7 31) rfl rfl kk dd (fun K hK=>?_);obtain⟨lx,hlx⟩:=HOx.out.rd;obtain⟨wy,hwy⟩:=ex_ (wx.alloc (.cells #[.slice Ax mx cx] 31));refine value_ rr rfl (v:=.slice (some ⟨wx.heap.size,0,none⟩) 1 1) (w1:=wy) (by rw[hwy];first|done|go_simp) ?_;have hby:=nb_ hwy;have HRR:Hid (RdR wy (some ⟨wx.heap.size,0,none⟩) 1 1 60000 [(Ax,mx,cx,lx)]):=by rw[hwy];exact rdr_new wx [(Ax,mx,cx,lx)] _ 1 rfl rfl (fun r hr=>by simp at hr;subst hr;exact⟨hlx,by show mx<=_;omega⟩)
 refine hK.out _ _ ⟨hH.1.out.below hby hH.1.out.lt,hH.2.1.out.below hby hH.2.1.out.lt,hH.2.2.1.out.below hby,hH.2.2.2.1.out.below hby hH.2.2.2.1.out.lt,hH.2.2.2.2.out.trans (hby.mono hH.2.2.2.2.out.size)⟩ (fun hH=>?_);clear hK K hwy hby hlx;refine mN ?_;refine one_ (i:=5) (N:=some 10) (bt 7 63) rfl rfl kk dd (fun K hK=>?_);refine goes_ func37 kk rfl #[.agg (ints .u8 ch).toArray,.string ⟨#[99,104,97,105,110]⟩,.slice (some ⟨wx.heap.size,0,none⟩) 1 1] rr rfl rfl mL ?_;refine(derive_any ch _ _ 1 1 _ _ HV.out.chain dd HRR.out o_).mono ?_;rintro _ wz ⟨⟨lz,hlz,rfl⟩,hbz⟩;refine⟨_,rfl,?_⟩;have HLz:=hd_ hlz;refine hK.out _ _ ⟨hH.1.out.below hbz hH.1.out.lt,hH.2.1.out.below hbz hH.2.1.out.lt,hH.2.2.1.out.below hbz,hH.2.2.2.1.out.below hbz hH.2.2.2.1.out.lt,hH.2.2.2.2.out.trans (hbz.mono hH.2.2.2.2.out.size)⟩ (fun hH=>?_);clear hK K hlz hbz;refine mN ?_;refine tl_ 6 ?_;refine mF ?_;obtain⟨-,-,-,HZx,HBx⟩:=hH;go_wp2_with (refine store_blk rfl 43 (.tmp 4) (.tmp 10) rr (w.heap.size+2) .u8 lz rr rr HZx.out HLz.out (by show _=_;rw[HLz.out];exact info43) ?_;intro w4 hB4 hg4);have hload:=hB4.loads underlying43 rfl (by show _=_;rw[HLz.out];exact info43);refine bodyPost_ret (v:=.agg (ints .u8 lz).toArray) (by simp[results,results104,asAddr,Act.put,hload]) rfl ⟨⟨lz,HLz.out,rfl⟩,(HB1.out.trans (HBx.out.mono HB1.out.size)).grown hg4 (HB1.out.trans (HBx.out.mono HB1.out.size)).size (fun k hk=>by cases hk;omega)⟩
end Go.Proofs.YtppjnahcnofokaaGreat.T
namespace Go.Proofs.YtppjnahcnofokaaGreat.T
open Go.RowKit Go.Proofs.YtppjnahcnofokaaGreatW.PrintLast
open Go.Proofs.Tryz
variable{k:IntKind}{a:Act}{b i n B base m fuel D B':Nat}{l ch p t0 q:List Int}{w w' w1 w2:World}{t:TypeId}{P:Int->Int->Prop}{cs:Array Value}{A A':Option Addr}{o oi:Oper}{e s f st fl:Int}{xs:List (List Int×Int×Int×Int)}{ops:Array Oper}{rest l0:List Oper}{v:Value}{r:Option Nat}{rs rs2:List (Option Addr×Nat×Nat×List Int)}{E:Prop}{vs l3:List Value}{ad ai go:List Bool}{N:Act->Prop}{place:Nat->Option (Nat×Nat)}{bad:Bool}{es es':List (Int×List Int)}{T:List TypeId}{ps:List (List Int)}
end Go.Proofs.YtppjnahcnofokaaGreat.T
namespace Go.Proofs.YtppjnahcnofokaaGreat.T
open Go.RowKit Go.Proofs.YtppjnahcnofokaaGreatW.PrintLast
open Go.Proofs.Tryz
variable{k:IntKind}{a:Act}{b i n B base m fuel D B':Nat}{l ch p t0 q:List Int}{w w' w1 w2:World}{t:TypeId}{P:Int->Int->Prop}{cs:Array Value}{A A':Option Addr}{o oi:Oper}{e s f st fl:Int}{xs:List (List Int×Int×Int×Int)}{ops:Array Oper}{rest l0:List Oper}{v:Value}{r:Option Nat}{rs rs2:List (Option Addr×Nat×Nat×List Int)}{E:Prop}{vs l3:List Value}{ad ai go:List Bool}{N:Act->Prop}{place:Nat->Option (Nat×Nat)}{bad:Bool}{es es':List (Int×List Int)}{T:List TypeId}{ps:List (List Int)}
def PyP.set(x:PyP)(e k:Int)(t ch:List Int)(ad:List Bool):PyP:=⟨e,k,t,ch,ad,x.lf,x.G,x.ow,x.hs,x.nd,x.ep,x.it⟩
def PyP.sep(x:PyP)(l:List Int):PyP:=⟨x.e,x.k,x.t,x.ch,x.ad,x.lf,x.G,x.ow,x.hs,x.nd,l,x.it⟩
def PyP.sit(x:PyP)(l:List Int):PyP:=⟨x.e,x.k,x.t,x.ch,x.ad,x.lf,x.G,x.ow,x.hs,x.nd,x.ep,l⟩
def PyP.sow(x:PyP)(l:List Int):PyP:=⟨x.e,x.k,x.t,x.ch,x.ad,x.lf,x.G,l,x.hs,x.nd,x.ep,x.it⟩
def PyP.snd(x:PyP)(l:List Int):PyP:=⟨x.e,x.k,x.t,x.ch,x.ad,x.lf,x.G,x.ow,x.hs,l,x.ep,x.it⟩
def PyP.shs(x:PyP)(l:List Bool):PyP:=⟨x.e,x.k,x.t,x.ch,x.ad,x.lf,x.G,x.ow,l,x.nd,x.ep,x.it⟩
variable{x:PyP}
theorem PyOk.set(h:PyOk x){k:Int}{t:List Int}(hv:VwOk t ad ch):PyOk (x.set e k t ch ad):=⟨hv,h.ow,h.hs,h.nd,h.ep,h.it,h.lf,h.G⟩
theorem PyOk.sep(h:PyOk x)(hl:l.length=32):PyOk (x.sep l):=⟨h.vw,h.ow,h.hs,h.nd,hl,h.it,h.lf,h.G⟩
theorem PyOk.sit(h:PyOk x)(hl:l.length=32):PyOk (x.sit l):=⟨h.vw,h.ow,h.hs,h.nd,h.ep,hl,h.lf,h.G⟩
theorem PyOk.sow(h:PyOk x)(hl:l.length=32):PyOk (x.sow l):=⟨h.vw,hl,h.hs,h.nd,h.ep,h.it,h.lf,h.G⟩
theorem PyOk.snd(h:PyOk x)(hl:l.length=96):PyOk (x.snd l):=⟨h.vw,h.ow,h.hs,hl,h.ep,h.it,h.lf,h.G⟩
theorem PyOk.shs(h:PyOk x){l:List Bool}(hl:l.length=3):PyOk (x.shs l):=⟨h.vw,h.ow,hl,h.nd,h.ep,h.it,h.lf,h.G⟩
theorem py_st_set{Q:Exit->Act->World->Prop}{k:Int}{t:List Int}(hv:VwOk t ad ch)(hgd:o.guard=none)(X y:Operand)(ho:o.op=.store 45 X y)(b:Nat)(hx:a.eval X=.pointer (some ⟨b,0,none⟩))(hy:a.eval y=.agg (vw e t ad k ch).toArray)(hC:Cel w b 82 (pyC x))(hok:PyOk x)(h:∀W2,Cel W2 b 82 (pyC (x.set e k t ch ad))->w.grownBy W2 (some b)->wpList prog ops Q rest (a.put o.dst undef) W2):wpList prog ops Q (o :: rest) a w:=
 store_cel hgd 45 X y ho b 0 82 ([]) (vw x.e x.t x.ad x.k x.ch) ([.int .i64 x.lf,x.G]++(ints .u8 x.ow)++(bools x.hs)++(ints .u8 x.nd)++(ints .u8 x.ep)++(ints .u8 x.it)) (vw e t ad k ch) hx hy (by have:=hC;rwa [py_sp0]at this) (py_l0 hok) (by rw[vw_len hv,vw_len hok.vw]) (vw_hi hv) (all_oneCell_toArray (vw_all _ _ _ _ _)) (fun W2 h1 h2=>h W2 (by rw[py_sp0];exact h1) h2)
theorem py_st_sow{Q:Exit->Act->World->Prop}(hl:l.length=32)(hgd:o.guard=none)(X y:Operand)(ho:o.op=.store 43 X y)(b:Nat)(hx:a.eval X=.pointer (some ⟨b,75,none⟩))(hy:a.eval y=.agg (ints .u8 l).toArray)(hC:Cel w b 82 (pyC x))(hok:PyOk x)(h:∀W2,Cel W2 b 82 (pyC (x.sow l))->w.grownBy W2 (some b)->wpList prog ops Q rest (a.put o.dst undef) W2):wpList prog ops Q (o :: rest) a w:=
 store_cel hgd 43 X y ho b 75 82 (vw x.e x.t x.ad x.k x.ch++([.int .i64 x.lf,x.G])) (ints .u8 x.ow) (bools x.hs++(ints .u8 x.nd)++(ints .u8 x.ep)++(ints .u8 x.it)) (ints .u8 l) hx hy (by have:=hC;rwa [py_sp2]at this) (py_l2 hok) (by rw[ints_len,ints_len,hl,hok.ow]) ((hi43 hl).out) (all_ints _ _) (fun W2 h1 h2=>h W2 (by rw[py_sp2];exact h1) h2)
theorem py_st_snd{Q:Exit->Act->World->Prop}(hl:l.length=96)(hgd:o.guard=none)(X y:Operand)(ho:o.op=.store 80 X y)(b:Nat)(hx:a.eval X=.pointer (some ⟨b,110,none⟩))(hy:a.eval y=.agg (ints .u8 l).toArray)(hC:Cel w b 82 (pyC x))(hok:PyOk x)(h:∀W2,Cel W2 b 82 (pyC (x.snd l))->w.grownBy W2 (some b)->wpList prog ops Q rest (a.put o.dst undef) W2):wpList prog ops Q (o :: rest) a w:=
 store_cel hgd 80 X y ho b 110 82 (vw x.e x.t x.ad x.k x.ch++([.int .i64 x.lf,x.G])++(ints .u8 x.ow)++(bools x.hs)) (ints .u8 x.nd) (ints .u8 x.ep++(ints .u8 x.it)) (ints .u8 l) hx hy (by have:=hC;rwa [py_sp4]at this) (py_l4 hok) (by rw[ints_len,ints_len,hl,hok.nd]) (by rw[ints_len,hl];exact info80) (all_ints _ _) (fun W2 h1 h2=>h W2 (by rw[py_sp4];exact h1) h2)
theorem py_st_sep{Q:Exit->Act->World->Prop}(hl:l.length=32)(hgd:o.guard=none)(X y:Operand)(ho:o.op=.store 43 X y)(b:Nat)(hx:a.eval X=.pointer (some ⟨b,206,none⟩))(hy:a.eval y=.agg (ints .u8 l).toArray)(hC:Cel w b 82 (pyC x))(hok:PyOk x)(h:∀W2,Cel W2 b 82 (pyC (x.sep l))->w.grownBy W2 (some b)->wpList prog ops Q rest (a.put o.dst undef) W2):wpList prog ops Q (o :: rest) a w:=
 store_cel hgd 43 X y ho b 206 82 (vw x.e x.t x.ad x.k x.ch++([.int .i64 x.lf,x.G])++(ints .u8 x.ow)++(bools x.hs)++(ints .u8 x.nd)) (ints .u8 x.ep) (ints .u8 x.it) (ints .u8 l) hx hy (by have:=hC;rwa [py_sp5]at this) (py_l5 hok) (by rw[ints_len,ints_len,hl,hok.ep]) ((hi43 hl).out) (all_ints _ _) (fun W2 h1 h2=>h W2 (by rw[py_sp5];exact h1) h2)
theorem py_st_sit{Q:Exit->Act->World->Prop}(hl:l.length=32)(hgd:o.guard=none)(X y:Operand)(ho:o.op=.store 43 X y)(b:Nat)(hx:a.eval X=.pointer (some ⟨b,238,none⟩))(hy:a.eval y=.agg (ints .u8 l).toArray)(hC:Cel w b 82 (pyC x))(hok:PyOk x)(h:∀W2,Cel W2 b 82 (pyC (x.sit l))->w.grownBy W2 (some b)->wpList prog ops Q rest (a.put o.dst undef) W2):wpList prog ops Q (o :: rest) a w:=
 store_cel hgd 43 X y ho b 238 82 (vw x.e x.t x.ad x.k x.ch++([.int .i64 x.lf,x.G])++(ints .u8 x.ow)++(bools x.hs)++(ints .u8 x.nd)++(ints .u8 x.ep)) (ints .u8 x.it) ([]) (ints .u8 l) hx hy (by have:=hC;rwa [py_sp6]at this) (py_l6 hok) (by rw[ints_len,ints_len,hl,hok.it]) ((hi43 hl).out) (all_ints _ _) (fun W2 h1 h2=>h W2 (by rw[py_sp6];exact h1) h2)
theorem py_st_shs{Q:Exit->Act->World->Prop}{l:List Bool}(hl:l.length=3)(hgd:o.guard=none)(X y:Operand)(ho:o.op=.store 79 X y)(b:Nat)(hx:a.eval X=.pointer (some ⟨b,107,none⟩))(hy:a.eval y=.agg (bools l).toArray)(hC:Cel w b 82 (pyC x))(hok:PyOk x)(h:∀W2,Cel W2 b 82 (pyC (x.shs l))->w.grownBy W2 (some b)->wpList prog ops Q rest (a.put o.dst undef) W2):wpList prog ops Q (o :: rest) a w:=
 store_cel hgd 79 X y ho b 107 82 (vw x.e x.t x.ad x.k x.ch++([.int .i64 x.lf,x.G])++(ints .u8 x.ow)) (bools x.hs) (ints .u8 x.nd++(ints .u8 x.ep)++(ints .u8 x.it)) (bools l) hx hy (by have:=hC;rwa [py_sp3]at this) (py_l3 hok) (by rw[bools_len,bools_len,hl,hok.hs]) (by rw[bools_len,hl];kernel_rfl) (all_bools _) (fun W2 h1 h2=>h W2 (by rw[py_sp3];exact h1) h2)
def EnR(b:Nat)(x:PyP)(e k:Int)(t ch:List Int)(ad:List Bool)(w:World)(r:Ending)(w':World):Prop:=
 IsH r/\(∃ep it:List Int,ep.length=32/\it.length=32/\Cel w' b 82 (pyC (((x.set e k t ch ad).sep ep).sit it)))/\w.grownBy w' (some b)
theorem enters_any(b:Nat)(x:PyP)(e k:Int)(t ch:List Int)(ad:List Bool)(p:List Int)(w:World)(hc:Cel w b 82 (pyC x))(hok:PyOk x)(hv:VwOk t ad ch)(hp:p.length=32):Calls prog 106 #[.pointer (some ⟨b,0,none⟩),.agg (vw e t ad k ch).toArray,.agg (ints .u8 p).toArray] w (EnR b x e k t ch ad w):=by
 obtain⟨w1,hW⟩:=ex_ (((w.alloc (.cells (vw e t ad k ch).toArray 45)).alloc (.cells (ints .u8 p).toArray 43)).alloc (.cells (ints .u8 zl).toArray 43));have hb1:Bl w w1:=by rw[hW];exact bal (bal b0_)
 have HV1:Hid (Cel w1 w.heap.size 45 (vw e t ad k ch)):=by rw[hW];exact((Cel.new _ rfl rfl).alloc _).alloc _
 have HP1:Hid (Blk w1 (w.heap.size+1) .u8 43 p):=by rw[hW];exact(blk_new _ .u8 43 p _ s_).below b0_ s_
 have HZ1:Hid (Row w1 (w.heap.size+2) .u8 43 32):=by rw[hW];exact Row.new zl _ rfl s_
 have hs1:w.heap.size+3<=w1.heap.size:=by rw[hW];simp
 have HC1:=hd_ (hc.below hb1 hc.lt);have hbw:b<w.heap.size:=hc.lt;have HG1:Hid (w.grownBy w1 (some b)):=grownBy_of hb1;have HOk:=hd_ hok;have HV:=hd_ hv;have HPp:=hd_ hp;have HW:=hd_ hW;clear hW hb1 hc hok hv hp;go_enter func106,ntmps106
 go_wp2_with ((change wpList _ _ _ _ _ (((w.alloc (.cells (vw e t ad k ch).toArray 45)).alloc (.cells (ints .u8 p).toArray 43)).alloc (.cells (ints .u8 zl).toArray 43)));rw[<-HW.out];refine wpList_load_mid rfl 45 (.tmp 4) rr w.heap.size 0 rr (vw e t ad k ch) _ HV1.out.all underlying45 rfl (vw_hi HV.out) ?_);refine(vHash_any e k t ch ad w1 HV.out).mono ?_;rintro _ w2 ⟨⟨lh,hlh,rfl⟩,hb2⟩;have HV2:=hd_ (HV1.out.below hb2 HV1.out.lt);have HP2:=hd_ (HP1.out.below hb2 HP1.out.lt);have HZ2:=hd_ (HZ1.out.below hb2 HZ1.out.lt);have HC2:=hd_ (HC1.out.below hb2 HC1.out.lt);have HG2:=hd_ (grownBy_tr HG1.out (grownBy_of hb2));have hs2:w.heap.size+3<=w2.heap.size:=Nat.le_trans hs1 hb2.size;have HLh:=hd_ hlh;have HY:Hid (Row (w2.alloc (.cells (ints .u8 zl).toArray 43)) w2.heap.size .u8 43 32):=Row.new zl _ rfl rfl;clear hb2 hlh
 go_wp2_with (first
  | (refine py_st_set (x:=x) HV.out rfl (.tmp 13) (.tmp 11) rr b rr rr HC3.out HOk.out ?_;intro w4 hC4 hg4;have HC4:=hd_ hC4;have HV4:=hd_ (HV3.out.grown hg4 s1_);have HP4:=hd_ (HP3.out.grown hg4 s1_);have HZ4:=hd_ (HZ3.out.grown hg4 s1_);have HH4:=hd_ (HH3.out.grown hg4 s1_);have HG4:=hd_ (grownBy_tr HG3.out hg4);have HOk4:Hid (PyOk (x.set e k t ch ad)):=HOk.out.set HV.out;have hs4:w2.heap.size<w4.heap.size:=Nat.lt_of_lt_of_le hs3 hg4.size;clear hC4 hg4)
  | (refine wpList_load_mid rfl 45 (.tmp 4) rr w.heap.size 0 rr (vw e t ad k ch) _ HV3.out.all underlying45 rfl (vw_hi HV.out) ?_)
  | (refine store_blk rfl 43 (.tmp 7) (.tmp 9) rr w2.heap.size .u8 lh rr rr HY.out HLh.out (by show _=_;rw[HLh.out];exact info43) ?_;intro w3 hB3 hg3;have hbb:Bl w2 w3:=((b0_:Bl w2 (w2.alloc (.cells (ints .u8 zl).toArray 43)))).grown hg3 s_ (fun k hk=>by cases hk;omega);have HH3:Hid (Blk w3 w2.heap.size .u8 43 lh):=hB3;have HC3:=hd_ (HC2.out.below hbb HC2.out.lt);have HV3:=hd_ (HV2.out.below hbb HV2.out.lt);have HP3:=hd_ (HP2.out.below hbb HP2.out.lt);have HZ3:=hd_ (HZ2.out.below hbb HZ2.out.lt);have HG3:=hd_ (grownBy_tr HG2.out (grownBy_of hbb));have hs3:w2.heap.size<w3.heap.size:=HH3.out.lt;clear hB3 hg3 hbb))
 refine pr_ 0 8 (bt 8 0) fun w1d hw1d=>?_;refine mG ?_;have hH:(fun w'=>Hid (Cel w' b 82 (pyC (x.set e k t ch ad)))/\Hid (Blk w' (w.heap.size+1) .u8 43 p)/\Hid (Row w' (w.heap.size+2) .u8 43 32)/\Hid (Blk w' w2.heap.size .u8 43 lh)/\Hid (w.grownBy w' (some b))) w1d:=by rw[<-hw1d];exact⟨HC4.out.drew,HP4.out.drew,HZ4.out.drew,HH4.out.drew,grownBy_drew' HG4.out⟩
 clear hw1d;refine wpAny_of_last (S:=fun w'=>Hid (Cel w' b 82 (pyC (x.set e k t ch ad)))/\Hid (Blk w' (w.heap.size+1) .u8 43 p)/\Hid (Row w' (w.heap.size+2) .u8 43 32)/\Hid (Blk w' w2.heap.size .u8 43 lh)/\Hid (w.grownBy w' (some b))) (ds:=[5,6,7]) _ _ _ _ ?_;refine ts_ 0 3 5 (bt 8 7) hH ?_;refine mD ?_;repeat (first|(refine tk_ 43 (.tmp 5) (w.heap.size+1) 0 (ints .u8 p) (fun _ h=>h.2.1.out.range) underlying43 rfl (hi43 HPp.out).out ?_)|(refine uA ?_)|(refine mB5 ?_))
 refine takes_nil ?_;refine one_ (i:=3) (N:=some 17) (bt 8 15) rfl rfl kk dd (fun K hK=>?_);obtain⟨wy,hwy⟩:=ex_ (w1d.alloc (.cells #[.slice (some ⟨w2.heap.size,0,none⟩) 32 32] 31));refine value_ rr rfl (v:=.slice (some ⟨w1d.heap.size,0,none⟩) 1 1) (w1:=wy) (by rw[hwy];first|done|go_simp) ?_;have hby:=nb_ hwy;have HRR:Hid (RdR wy (some ⟨w1d.heap.size,0,none⟩) 1 1 60000 [(some ⟨w2.heap.size,0,none⟩,32,32,lh)]):=by rw[hwy];exact rdr_new w1d [(some ⟨w2.heap.size,0,none⟩,32,32,lh)] _ 1 rfl rfl (fun r hr=>by simp at hr;subst hr;exact⟨rd_blk hH.2.2.2.1.out HLh.out,by show 32<=_;omega⟩)
 refine hK.out _ _ ⟨hH.1.out.below hby hH.1.out.lt,hH.2.1.out.below hby hH.2.1.out.lt,hH.2.2.1.out.below hby hH.2.2.1.out.lt,hH.2.2.2.1.out.below hby hH.2.2.2.1.out.lt,grownBy_tr hH.2.2.2.2.out (grownBy_of hby)⟩ (fun hH=>?_);clear hK K hwy hby;refine mN ?_;refine one_ (i:=4) (N:=some 18) (bt 8 31) rfl rfl kk dd (fun K hK=>?_);refine goes_ func37 kk rfl #[.agg (ints .u8 p).toArray,.string ⟨#[101,112,111,99,104]⟩,.slice (some ⟨w1d.heap.size,0,none⟩) 1 1] rr rfl rfl mL ?_;refine(derive_any p _ _ 1 1 _ _ HPp.out dd HRR.out o_).mono ?_;rintro _ wx ⟨⟨lz,hlz,rfl⟩,hbx⟩;refine⟨_,rfl,?_⟩;have HLz:=hd_ hlz;refine hK.out _ _ ⟨hH.1.out.below hbx hH.1.out.lt,hH.2.1.out.below hbx hH.2.1.out.lt,hH.2.2.1.out.below hbx hH.2.2.1.out.lt,hH.2.2.2.1.out.below hbx hH.2.2.2.1.out.lt,grownBy_tr hH.2.2.2.2.out (grownBy_of hbx)⟩ (fun hH=>?_);clear hK K hlz hbx;refine mN ?_;refine tl_ 5 ?_;refine mF ?_;obtain⟨HCx,-,HZx,-,HGx⟩:=hH
 go_wp2_with (first
  | (refine py_st_sep (x:=x.set e k t ch ad) HLz.out rfl (.tmp 20) (.tmp 18) rr b rr rr HCx.out HOk4.out ?_;intro w5 hC5 hg5;have HC5:=hd_ hC5;have HZ5:=hd_ (HZx.out.grown hg5 s1_);have HG5:=hd_ (grownBy_tr HGx.out hg5);have HOk5:Hid (PyOk ((x.set e k t ch ad).sep lz)):=HOk4.out.sep HLz.out;clear hC5 hg5)
  | (refine wpList_load_mid rfl 43 (.tmp 24) rr b 206 rr (ints .u8 lz) _ (py_rg5 HOk5.out HC5.out) underlying43 rfl (hi43 HLz.out).out ?_))
 refine(derive_any lz _ none 0 0 [] _ HLz.out dd (rdr_nil _) o_).mono ?_;rintro _ w6 ⟨⟨lq,hlq,rfl⟩,hb6⟩;have HC6:=hd_ (HC5.out.below hb6 HC5.out.lt);have HZ6:=hd_ (HZ5.out.below hb6 HZ5.out.lt);have HG6:=hd_ (grownBy_tr HG5.out (grownBy_of hb6));have HLq:=hd_ hlq;clear hb6 hlq
 go_wp2_with (first
  | (refine py_st_sit (x:=(x.set e k t ch ad).sep lz) HLq.out rfl (.tmp 28) (.tmp 26) rr b rr rr HC6.out HOk5.out ?_;intro w7 hC7 hg7;have HC7:=hd_ hC7;have HZ7:=hd_ (HZ6.out.grown hg7 s1_);have HG7:=hd_ (grownBy_tr HG6.out hg7);have HOk7:Hid (PyOk (((x.set e k t ch ad).sep lz).sit lq)):=HOk5.out.sit HLq.out;clear hC7 hg7)
  | (refine wpList_load_mid rfl 43 (.tmp 31) rr b 206 rr (ints .u8 lz) _ (py_rg5 HOk7.out HC7.out) underlying43 rfl (hi43 HLz.out).out ?_))
 refine(derive_any lz _ none 0 0 [] _ HLz.out dd (rdr_nil _) o_).mono ?_;rintro _ w8 ⟨⟨lr,hlr,rfl⟩,hb8⟩;have HC8:=hd_ (HC7.out.below hb8 HC7.out.lt);have HZ8:=hd_ (HZ7.out.below hb8 HZ7.out.lt);have HG8:=hd_ (grownBy_tr HG7.out (grownBy_of hb8));have HLr:=hd_ hlr;clear hb8 hlr;go_wp2_with (refine store_blk rfl 43 (.tmp 6) (.tmp 33) rr (w.heap.size+2) .u8 lr rr rr HZ8.out HLr.out (by show _=_;rw[HLr.out];exact info43) ?_;intro w9 hB9 hg9);have hload:=hB9.loads underlying43 rfl (by show _=_;rw[HLr.out];exact info43);refine bodyPost_ret (v:=.agg (ints .u8 lr).toArray) (by simp[results,results106,asAddr,Act.put,hload]) rfl ⟨⟨lr,HLr.out,rfl⟩,⟨lz,lq,HLz.out,HLq.out,HC8.out.grown hg9 s1_⟩,grownBy_far HG8.out hg9 o_⟩
end Go.Proofs.YtppjnahcnofokaaGreat.T
namespace Go.Proofs.YtppjnahcnofokaaGreat.T
open Go.RowKit Go.Proofs.YtppjnahcnofokaaGreatW.PrintLast
open Go.Proofs.Tryz
variable{k:IntKind}{a:Act}{b i n B base m fuel D B':Nat}{l ch p t0 q:List Int}{w w' w1 w2:World}{t:TypeId}{P:Int->Int->Prop}{cs:Array Value}{A A':Option Addr}{o oi:Oper}{e s f st fl:Int}{xs:List (List Int×Int×Int×Int)}{ops:Array Oper}{rest l0:List Oper}{v:Value}{r:Option Nat}{rs rs2:List (Option Addr×Nat×Nat×List Int)}{E:Prop}{vs l3:List Value}{ad ai go:List Bool}{N:Act->Prop}{place:Nat->Option (Nat×Nat)}{bad:Bool}{es es':List (Int×List Int)}{T:List TypeId}{ps:List (List Int)}
structure Gr2 (b c:Nat) (w w':World):Prop where
 os:w'.os=w.os
 tape:w'.tape=w.tape
 output:w'.output=w.output
 size:w.heap.size<=w'.heap.size
 block:∀k,k<w.heap.size->k≠b->k≠c->w'.heap[k]? = w.heap[k]?
theorem Gr2.bel{c:Nat}{w'':World}(h:Gr2 b c w w')(hb:Bl w' w''):Gr2 b c w w'':=
 ⟨hb.os.trans h.os,hb.tape.trans h.tape,hb.output.trans h.output,Nat.le_trans h.size hb.size,fun k hk h1 h2=>(hb.block k (Nat.lt_of_lt_of_le hk h.size)).trans (h.block k hk h1 h2)⟩
theorem Gr2.gr{c d:Nat}{w'':World}(h:Gr2 b c w w')(hg:w'.grownBy w'' (some d))(hd:d=b\/d=c\/w.heap.size<=d):Gr2 b c w w'':=
 ⟨hg.os.trans h.os,hg.tape.trans h.tape,hg.output.trans h.output,Nat.le_trans h.size hg.size,fun k hk h1 h2=>(hg.block k (Nat.lt_of_lt_of_le hk h.size) s1_).trans (h.block k hk h1 h2)⟩
theorem Gr2.refl(b c:Nat)(w:World):Gr2 b c w w:=⟨rfl,rfl,rfl,Nat.le_refl _,fun _ _ _ _=>rfl⟩
theorem Cel.gr2{c d:Nat}(h:Cel w d t vs)(hg:Gr2 b c w w')(h1:d≠b)(h2:d≠c):Cel w' d t vs:=(hg.block d h.lt h1 h2).trans h
def CmP.keys(y:CmP)(s p0 p1 p2:Int):CmP:=⟨y.e,y.f,y.O,y.V,s,p0,p1,p2,y.X,y.tag,y.E,y.S⟩
theorem info96':(prog.info? 43).map (fun i=>(i.zero,i.size,i.bytes))=some (some (.agg (ints .u8 zl).toArray),32,32):=by kernel_rfl
theorem idx80(l:List Int)(hl:l.length=96)(i:Nat)(hi:i<3)(w:World):(Instr.index 80 (.agg (ints .u8 l).toArray) (.int .i64 (i:Int))).run prog w=.ok (.agg (ints .u8 ((l.drop (i*32)).take 32)).toArray) w:=by
 obtain⟨inf,hinf,_,hs,_⟩:=info_parts info96';rw[run_index_agg w 80 43 3 _ i inf _ underlying80 hinf underlying43 rfl hi,hs];have e:(ints .u8 l).toArray.extract (i*32) (i*32+32)=(ints .u8 ((l.drop (i*32)).take 32)).toArray:=by rw[List.extract_toArray];simp[ints,List.extract_eq_take_drop,List.map_drop,List.map_take]
 rw[e]
end Go.Proofs.YtppjnahcnofokaaGreat.T
namespace Go.Proofs.YtppjnahcnofokaaGreat.T
open Go.RowKit Go.Proofs.YtppjnahcnofokaaGreatW.PrintLast
open Go.Proofs.Tryz
variable{k:IntKind}{a:Act}{b i n B base m fuel D B':Nat}{l ch p t0 q:List Int}{w w' w1 w2:World}{t:TypeId}{P:Int->Int->Prop}{cs:Array Value}{A A':Option Addr}{o oi:Oper}{e s f st fl:Int}{xs:List (List Int×Int×Int×Int)}{ops:Array Oper}{rest l0:List Oper}{v:Value}{r:Option Nat}{rs rs2:List (Option Addr×Nat×Nat×List Int)}{E:Prop}{vs l3:List Value}{ad ai go:List Bool}{N:Act->Prop}{place:Nat->Option (Nat×Nat)}{bad:Bool}{es es':List (Int×List Int)}{T:List TypeId}{ps:List (List Int)}
theorem lvl3:∀m,m<15->lvl m<=3:=by decide +kernel
end Go.Proofs.YtppjnahcnofokaaGreat.T
namespace Go.Proofs.YtppjnahcnofokaaGreat.T
open Go.RowKit Go.Proofs.YtppjnahcnofokaaGreatW.PrintLast
open Go.Proofs.Tryz
variable{k:IntKind}{a:Act}{b i n B base m fuel D B':Nat}{l ch p t0 q:List Int}{w w' w1 w2:World}{t:TypeId}{P:Int->Int->Prop}{cs:Array Value}{A A':Option Addr}{o oi:Oper}{e s f st fl:Int}{xs:List (List Int×Int×Int×Int)}{ops:Array Oper}{rest l0:List Oper}{v:Value}{r:Option Nat}{rs rs2:List (Option Addr×Nat×Nat×List Int)}{E:Prop}{vs l3:List Value}{ad ai go:List Bool}{N:Act->Prop}{place:Nat->Option (Nat×Nat)}{bad:Bool}{es es':List (Int×List Int)}{T:List TypeId}{ps:List (List Int)}
variable{x:PyP}
theorem py_nr(h:PyOk x)(hC:Cel w b 82 (pyC x))(i:Nat)(_hi:i<3):w.rangeAt b (110+i*32) (ints .u8 ((x.nd.drop (i*32)).take 32)):=
 range_take (range_drop (py_rg4 h hC) (i*32)) 32
theorem py_nl(h:PyOk x)(i:Nat)(hi:i<3):((x.nd.drop (i*32)).take 32).length=32:=by rw[List.length_take,List.length_drop,h.nd];omega
end Go.Proofs.YtppjnahcnofokaaGreat.T
