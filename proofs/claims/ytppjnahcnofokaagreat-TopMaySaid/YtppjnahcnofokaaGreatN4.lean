import Derived.Test.YtppjnahcnofokaaGreatN0
import Derived.Test.YtppjnahcnofokaaGreatN2
import Derived.Test.YtppjnahcnofokaaGreatN3
set_option maxRecDepth 100000
set_option maxHeartbeats 32000000
set_option linter.unusedSimpArgs false
set_option linter.unusedVariables false
namespace Go.Proofs.YtppjnahcnofokaaGreat.T
open Go.RowKit Go.Proofs.YtppjnahcnofokaaGreatW.PrintLast
open Go.Proofs.Tryz
variable{k:IntKind}{a:Act}{b i n B base m fuel D B':Nat}{l ch t0:List Int}{w w' w1 w2:World}{t:TypeId}{P:Program}{cs xs vs l3:List Value}{A A':Option Addr}{o oi:Oper}{e s f st fl:Int}{ops:Array Oper}{rest l0:List Oper}{v:Value}{r:Option Nat}{rs rs2:List (Option Addr×Nat×Nat×List Int)}{E:Prop}{ad ai go:List Bool}{N:Act->Prop}{place:Nat->Option (Nat×Nat)}{bad:Bool}{es es':List (Int×List Int)}{T:List TypeId}
theorem rd_lit(w:World)(k:IntKind)(t:TypeId)(cs:Array Value)(l:List Int)(n b:Nat)(hcs:cs=(ints k l).toArray)(hn:l.length=n)(hb:w.heap.size=b):Rd (w.alloc (.cells cs t)) k (some ⟨b,0,none⟩) n n l:=by
 subst hcs hb hn;exact⟨rfl,Nat.le_refl _,fun _=>⟨_,_,rfl,by simp,Blk.range (t:=t) (heap_alloc_new _ _)⟩⟩
theorem within1_any(x m:Int)(p:Addr)(w:World)(hs:p.spot=none)(hc:w.cell? p=some (.int .i64 m)):Calls prog 200 #[.int .i64 x,.pointer (some p)] w fun r w'=>IsB r/\Bl w w':=by
 obtain⟨b,o,sp⟩:=p;have hs':sp=none:=hs;subst hs';go_enter func200,ntmps200
 by_cases h0:x<0
 · go_wp2_with fail;go_ret;exact⟨⟨_,rfl⟩,Below.refl _ _⟩
 go_wp2_with fail;go_ret;exact⟨⟨_,rfl⟩,Below.refl _ _⟩
theorem Rd.ntat{c:Nat}(h:Rd w k A n c l)(i:Nat)(hi:i<n):∃b o x0,A=some ⟨b,o,none⟩/\w.cell? ⟨b,o+i,none⟩=some (.int k x0):=by
 have hcap:=h.cap;have hlen:=h.len;obtain⟨b,o,e,hlt,hr⟩:=h.at_ o_;exact⟨b,o,_,e,hr i _ (ints_get (List.getElem?_eq_getElem o_))⟩
theorem idxInt_any(A:Option Addr)(n c:Nat)(l:List Int)(m:Int)(p:Addr)(w:World)(hr:Rd w .i64 A n c l)(hp:p.block<w.heap.size)(hs:p.spot=none)(hc:w.cell? p=some (.int .i64 m))(hn:n<2 ^ 60):Calls prog 214 #[.slice A n c,.func (.func 200) #[] #[.pointer (some p)]] w fun r w'=>(∃x,r=.returned (.int .i64 x))/\Bl w w':=by
 have HR:=hd_ hr;have HC:=hd_ hc;clear hr hc;go_enter func214,ntmps214
 go_wp2_with fail;go_loopw [8] (fun v wr=>∃i:Nat,v=.int .i64 i/\i<=n/\Hid (Bl w wr)) (fun v _=>n-(intOf v).toNat)
 case atStart=>exact⟨0,rfl,by omega,Below.refl _ _⟩
 case round=>
  obtain⟨i,rfl,hi,hb⟩:=hrel;by_cases hlt:i<n
  · obtain⟨b,o,x0,rfl,c0⟩:=(HR.out.below hb.out).ntat i hlt;have hcap:=HR.out.cap;go_wp2_with fail;refine(within1_any x0 m p _ hs ((hb.out.cell hp).trans HC.out)).mono ?_;rintro _ w4 ⟨⟨q,rfl⟩,hb4⟩;have Hb4:=tb_ hb hb4;clear hb4 c0
    cases q with
    | true=>
     go_wp2_with fail;go_ret;exact⟨⟨_,rfl⟩,Hb4.out⟩
    | false=>
     go_wp2_with fail;go_roundw;(case rel=>exact⟨i+1,by go_num,by omega,Hb4⟩);case measure=>simp[intOf];omega
  go_wp2_with fail;go_ret;exact⟨⟨_,rfl⟩,hb.out⟩
theorem hasInt_any(A:Option Addr)(n c:Nat)(l:List Int)(m:Int)(p:Addr)(w:World)(hr:Rd w .i64 A n c l)(hp:p.block<w.heap.size)(hs:p.spot=none)(hc:w.cell? p=some (.int .i64 m))(hn:n<2 ^ 60):Calls prog 199 #[.slice A n c,.func (.func 200) #[] #[.pointer (some p)]] w fun r w'=>IsB r/\Bl w w':=by
 go_enter func199,ntmps199
 go_wp2_with fail;refine(idxInt_any A n c l m p w hr hp hs hc hn).mono ?_;rintro _ w4 ⟨⟨q,rfl⟩,hb4⟩;go_wp2_with fail;go_ret;exact⟨⟨_,rfl⟩,hb4⟩
theorem within_any(m:Int)(A:Option Addr)(n c:Nat)(l:List Int)(w:World)(hr:Rd w .i64 A n c l)(hn:n<2 ^ 60):Calls prog 163 #[.int .i64 m,.slice A n c] w fun r w'=>IsB r/\Bl w w':=by
 have h1:Bl w (w.alloc (.cells #[.int .i64 m] 3)):=b0_;have HR:=hd_ (hr.below h1);have HB:=hd_ h1;clear hr h1;go_enter func163,ntmps163
 go_wp2_with fail;refine(hasInt_any A n c l m ⟨w.heap.size,0,none⟩ _ HR.out s_ rfl s_ hn).mono ?_;rintro _ w4 ⟨⟨q,rfl⟩,hb4⟩;have HB4:=tb_ HB hb4;clear hb4;go_wp2_with fail;go_ret;exact⟨⟨_,rfl⟩,HB4.out⟩
theorem isSig_any(e s:Int)(w:World):Calls prog 164 #[.agg #[.int .i64 e,.int .i64 s]] w fun r w'=>IsB r/\Bl w w':=by
 obtain⟨w1,hw1⟩:=ex_ ((w.alloc (.cells #[.int .i64 e,.int .i64 s] 116)).alloc (.cells #[.int .i64 e,.int .i64 s] 3));have HB:Hid (Bl w w1):=by rw[hw1];exact bal b0_
 have HR:Hid (Rd w1 .i64 (some ⟨w.heap.size+1,0,none⟩) 2 2 [e,s]):=by rw[hw1];exact rd_lit _ .i64 _ _ _ _ _ rfl rfl s_
 have HW:=hd_ hw1;clear hw1;go_enter func164,ntmps164
 go_wp2_with ((change Calls _ _ _ ((w.alloc (.cells #[.int .i64 e,.int .i64 s] 116)).alloc (.cells #[.int .i64 e,.int .i64 s] 3)) _);fail);rw[<-HW.out];refine(within_any _ _ 2 2 [e,s] _ HR.out dd).mono ?_;rintro _ w4 ⟨⟨q,rfl⟩,hb4⟩;have HB4:=tb_ HB hb4;clear hb4;go_wp2_with fail;go_ret;exact⟨⟨_,rfl⟩,HB4.out⟩
theorem wOp_any(a b c d e:Int)(w:World):Calls prog 166 #[opv a b c d e] w fun r w'=>IsB r/\Bl w w':=by
 unfold opv;obtain⟨w1,hw1⟩:=ex_ ((w.alloc (.cells #[.int .i64 a,.int .i64 b,.int .i64 c,.int .i64 d,.int .i64 e] 55)).alloc (.cells #[.int .i64 a,.int .i64 b,.int .i64 c,.int .i64 d,.int .i64 e] 3));have HB:Hid (Bl w w1):=by rw[hw1];exact bal b0_
 have HR:Hid (Rd w1 .i64 (some ⟨w.heap.size+1,0,none⟩) 5 5 [a,b,c,d,e]):=by rw[hw1];exact rd_lit _ .i64 _ _ _ _ _ rfl rfl s_
 have HW:=hd_ hw1;clear hw1;go_enter func166,ntmps166
 go_wp2_with ((change Calls _ _ _ ((w.alloc (.cells #[.int .i64 a,.int .i64 b,.int .i64 c,.int .i64 d,.int .i64 e] 55)).alloc (.cells #[.int .i64 a,.int .i64 b,.int .i64 c,.int .i64 d,.int .i64 e] 3)) _);fail);rw[<-HW.out];refine(within_any _ _ 5 5 [a,b,c,d,e] _ HR.out dd).mono ?_;rintro _ w4 ⟨⟨q,rfl⟩,hb4⟩;have HB4:=tb_ HB hb4;clear hb4;go_wp2_with fail;go_ret;exact⟨⟨_,rfl⟩,HB4.out⟩
theorem isBox_any(A:Option Addr)(n c:Nat)(w:World):Calls prog 170 #[.slice A n c] w fun r w'=>IsB r/\Bl w w':=by
 go_enter func170,ntmps170
 go_wp2;go_ret;exact⟨⟨_,rfl⟩,Below.refl _ _⟩
def voteV(a e s:Int):Value:=.agg #[.int .i64 a,.int .i64 e,.int .i64 s]
theorem isVote_any(a e s:Int)(w:World):Calls prog 168 #[voteV a e s] w fun r w'=>IsB r/\Bl w w':=by
 unfold voteV;obtain⟨w1,hw1⟩:=ex_ ((w.alloc (.cells #[.int .i64 a,.int .i64 e,.int .i64 s] 118)).alloc (.cells #[.int .i64 a] 3));have HB:Hid (Bl w w1):=by rw[hw1];exact bal b0_
 have HL:Hid (w.heap.size<w1.heap.size):=by rw[hw1];show _<_;simp;omega
 have c1:w1.cell? ⟨w.heap.size,1,none⟩=some (.int .i64 e):=by rw[hw1];simp
 have c2:w1.cell? ⟨w.heap.size,2,none⟩=some (.int .i64 s):=by rw[hw1];simp
 have HR:Hid (Rd w1 .i64 (some ⟨w.heap.size+1,0,none⟩) 1 1 [a]):=by rw[hw1];exact rd_lit _ .i64 _ _ _ _ _ rfl rfl s_
 have HW:=hd_ hw1;clear hw1;go_enter func168,ntmps168
 go_wp2_with ((change Calls _ _ _ ((w.alloc (.cells #[.int .i64 a,.int .i64 e,.int .i64 s] 118)).alloc (.cells #[.int .i64 a] 3)) _);fail);rw[<-HW.out];refine(within_any _ _ 1 1 [a] _ HR.out dd).mono ?_;rintro _ w4 ⟨⟨q,rfl⟩,hb4⟩;have HB4:=tb_ HB hb4;have d1:=(hb4.cell (p:=⟨w.heap.size,1,none⟩) HL.out).trans c1;have d2:=(hb4.cell (p:=⟨w.heap.size,2,none⟩) HL.out).trans c2;clear hb4 c1 c2
 cases q with
 | false=>
  go_wp2_with fail;go_ret;exact⟨⟨_,rfl⟩,HB4.out⟩
 | true=>
  go_wp2_with fail;refine(isSig_any e s _).mono ?_;rintro _ w5 ⟨⟨q,rfl⟩,hb5⟩;have HB5:=tb_ HB4 hb5;clear hb5 d1 d2;go_wp2_with fail;go_ret;exact⟨⟨_,rfl⟩,HB5.out⟩
theorem notOp_any(a b' c d e:Int)(p:Addr)(w:World)(hp:p.block<w.heap.size)(hs:p.spot=none)(hc:w.cell? p=some (.func (.func 166) #[] #[])):Calls prog 201 #[opv a b' c d e,.pointer (some p)] w fun r w'=>IsB r/\Bl w w':=by
 unfold opv;obtain⟨b,o,sp⟩:=p;have hs':sp=none:=hs;subst hs';have HB:Hid (Bl w (w.alloc (.cells #[.int .i64 a,.int .i64 b',.int .i64 c,.int .i64 d,.int .i64 e] 55))):=b0_;have hc2:(w.alloc (.cells #[.int .i64 a,.int .i64 b',.int .i64 c,.int .i64 d,.int .i64 e] 55)).cell? ⟨b,o,none⟩=some (.func (.func 166) #[] #[]):=(HB.out.cell hp).trans hc;clear hc;go_enter func201,ntmps201
 go_wp2_with fail;refine(wOp_any a b' c d e _).mono ?_;rintro _ w4 ⟨⟨q,rfl⟩,hb4⟩;have HB4:=tb_ HB hb4;clear hb4;go_wp2_with fail;go_ret;exact⟨⟨_,rfl⟩,HB4.out⟩
theorem notVote_any(a e s:Int)(p:Addr)(w:World)(hp:p.block<w.heap.size)(hs:p.spot=none)(hc:w.cell? p=some (.func (.func 168) #[] #[])):Calls prog 203 #[voteV a e s,.pointer (some p)] w fun r w'=>IsB r/\Bl w w':=by
 unfold voteV;obtain⟨b,o,sp⟩:=p;have hs':sp=none:=hs;subst hs';have HB:Hid (Bl w (w.alloc (.cells #[.int .i64 a,.int .i64 e,.int .i64 s] 118))):=b0_;have hc2:(w.alloc (.cells #[.int .i64 a,.int .i64 e,.int .i64 s] 118)).cell? ⟨b,o,none⟩=some (.func (.func 168) #[] #[]):=(HB.out.cell hp).trans hc;clear hc;go_enter func203,ntmps203
 go_wp2_with fail;refine(isVote_any a e s _).mono ?_;rintro _ w4 ⟨⟨q,rfl⟩,hb4⟩;have HB4:=tb_ HB hb4;clear hb4;go_wp2_with fail;go_ret;exact⟨⟨_,rfl⟩,HB4.out⟩
theorem notBox_any(A:Option Addr)(n c:Nat)(p:Addr)(w:World)(hp:p.block<w.heap.size)(hs:p.spot=none)(hc:w.cell? p=some (.func (.func 170) #[] #[])):Calls prog 205 #[.slice A n c,.pointer (some p)] w fun r w'=>IsB r/\Bl w w':=by
 obtain⟨b,o,sp⟩:=p;have hs':sp=none:=hs;subst hs';have HB:Hid (Bl w w):=Below.refl _ _;go_enter func205,ntmps205
 go_wp2_with fail;refine(isBox_any A n c _).mono ?_;rintro _ w4 ⟨⟨q,rfl⟩,hb4⟩;have HB4:=tb_ HB hb4;clear hb4;go_wp2_with fail;go_ret;exact⟨⟨_,rfl⟩,HB4.out⟩
def VoteR(w:World)(A:Option Addr)(n c:Nat)(l:List Int):Prop:=Rg w 3 A n c (ints .i64 l)
theorem VoteR.below{c:Nat}(h:VoteR w A n c l)(hb:Bl w w'):VoteR w' A n c l:=Rg.below h hb
theorem VoteR.at{c:Nat}(h:VoteR w A n c l)(i:Nat)(hi:i<n):∃b o x0 x1 x2,A=some ⟨b,o,none⟩/\b<w.heap.size/\w.cell? ⟨b,o+i*3,none⟩=some (.int .i64 x0)/\w.cell? ⟨b,o+i*3+1,none⟩=some (.int .i64 x1)/\w.cell? ⟨b,o+i*3+2,none⟩=some (.int .i64 x2):=by
 have hcap:=h.cap;have hlen:=h.len;rw[ints_len]at hlen;obtain⟨b,o,e,hlt,hr⟩:=h.at_ o_;have hc:∀j,j<3->∃x,w.cell? ⟨b,o+(i*3+j),none⟩=some (.int .i64 x):=fun j hj=>
  ⟨_,hr (i*3+j) _ (ints_get (List.getElem?_eq_getElem o_))⟩
 obtain⟨x0,h0⟩:=hc 0 o_;obtain⟨x1,h1⟩:=hc 1 o_;obtain⟨x2,h2⟩:=hc 2 o_;exact⟨b,o,x0,x1,x2,e,hlt,h0,h1,h2⟩
theorem idxVote_any(A:Option Addr)(n c:Nat)(l:List Int)(p:Addr)(w:World)(hr:VoteR w A n c l)(hp:p.block<w.heap.size)(hs:p.spot=none)(hc:w.cell? p=some (.func (.func 168) #[] #[]))(hn:n<2 ^ 60):Calls prog 215 #[.slice A n c,.func (.func 203) #[] #[.pointer (some p)]] w fun r w'=>(∃x,r=.returned (.int .i64 x))/\Bl w w':=by
 have HR:=hd_ hr;have HC:=hd_ hc;clear hr hc;go_enter func215,ntmps215
 go_wp2_with fail;go_loopw [8] (fun v wr=>∃i:Nat,v=.int .i64 i/\i<=n/\Hid (Bl w wr)) (fun v _=>n-(intOf v).toNat)
 case atStart=>exact⟨0,rfl,by omega,Below.refl _ _⟩
 case round=>
  obtain⟨i,rfl,hi,hb⟩:=hrel;by_cases hlt:i<n
  · obtain⟨b,o,x0,x1,x2,rfl,_,c0,c1,c2⟩:=(HR.out.below hb.out).at i hlt;have hcap:=HR.out.cap;go_wp2_with fail;refine(notVote_any x0 x1 x2 p _ (Nat.lt_of_lt_of_le hp hb.out.size) hs ((hb.out.cell hp).trans HC.out)).mono ?_;rintro _ w4 ⟨⟨q,rfl⟩,hb4⟩;have Hb4:=tb_ hb hb4;clear hb4 c0 c1 c2
    cases q with
    | true=>
     go_wp2_with fail;go_ret;exact⟨⟨_,rfl⟩,Hb4.out⟩
    | false=>
     go_wp2_with fail;go_roundw;(case rel=>exact⟨i+1,by go_num,by omega,Hb4⟩);case measure=>simp[intOf];omega
  go_wp2_with fail;go_ret;exact⟨⟨_,rfl⟩,hb.out⟩
theorem hasVote_any(A:Option Addr)(n c:Nat)(l:List Int)(p:Addr)(w:World)(hr:VoteR w A n c l)(hp:p.block<w.heap.size)(hs:p.spot=none)(hc:w.cell? p=some (.func (.func 168) #[] #[]))(hn:n<2 ^ 60):Calls prog 202 #[.slice A n c,.func (.func 203) #[] #[.pointer (some p)]] w fun r w'=>IsB r/\Bl w w':=by
 go_enter func202,ntmps202
 go_wp2_with fail;refine(idxVote_any A n c l p w hr hp hs hc hn).mono ?_;rintro _ w4 ⟨⟨q,rfl⟩,hb4⟩;go_wp2_with fail;go_ret;exact⟨⟨_,rfl⟩,hb4⟩
theorem allVote_any(A:Option Addr)(n c:Nat)(l:List Int)(w:World)(hr:VoteR w A n c l)(hn:n<2 ^ 60):Calls prog 167 #[.slice A n c,.func (.func 168) #[] #[]] w fun r w'=>IsB r/\Bl w w':=by
 have h1:Bl w (w.alloc (.cells #[.func (.func 168) #[] #[]] 241)):=b0_;have HR:=hd_ (hr.below h1);have HB:=hd_ h1;clear hr h1;go_enter func167,ntmps167
 go_wp2_with fail;refine(hasVote_any A n c l ⟨w.heap.size,0,none⟩ _ HR.out s_ rfl s_ hn).mono ?_;rintro _ w4 ⟨⟨q,rfl⟩,hb4⟩;have HB4:=tb_ HB hb4;clear hb4;go_wp2_with fail;go_ret;exact⟨⟨_,rfl⟩,HB4.out⟩
theorem RdL.nat{c:Nat}(h:RdL w A n c B)(i:Nat)(hi:i<n):∃b o A' n' c',A=some ⟨b,o,none⟩/\w.cell? ⟨b,o+i,none⟩=some (.slice A' n' c'):=by
 have hcap:=h.cap;obtain⟨b,o,e,hlt,hr⟩:=h.at_ o_;obtain⟨A',n',c',l',h1,_⟩:=hr i hi;exact⟨b,o,A',n',c',e,h1⟩
theorem idxBox_any(A:Option Addr)(n c:Nat)(B:Nat)(p:Addr)(w:World)(hr:RdL w A n c B)(hp:p.block<w.heap.size)(hs:p.spot=none)(hc:w.cell? p=some (.func (.func 170) #[] #[]))(hn:n<2 ^ 60):Calls prog 216 #[.slice A n c,.func (.func 205) #[] #[.pointer (some p)]] w fun r w'=>(∃x,r=.returned (.int .i64 x))/\Bl w w':=by
 have HR:=hd_ hr;have HC:=hd_ hc;clear hr hc;go_enter func216,ntmps216
 go_wp2_with fail;go_loopw [8] (fun v wr=>∃i:Nat,v=.int .i64 i/\i<=n/\Hid (Bl w wr)) (fun v _=>n-(intOf v).toNat)
 case atStart=>exact⟨0,rfl,by omega,Below.refl _ _⟩
 case round=>
  obtain⟨i,rfl,hi,hb⟩:=hrel;by_cases hlt:i<n
  · obtain⟨b,o,A',n',c',rfl,c0⟩:=(HR.out.below hb.out).nat i hlt;have hcap:=HR.out.cap;go_wp2_with fail;refine(notBox_any A' n' c' p _ (Nat.lt_of_lt_of_le hp hb.out.size) hs ((hb.out.cell hp).trans HC.out)).mono ?_;rintro _ w4 ⟨⟨q,rfl⟩,hb4⟩;have Hb4:=tb_ hb hb4;clear hb4 c0
    cases q with
    | true=>
     go_wp2_with fail;go_ret;exact⟨⟨_,rfl⟩,Hb4.out⟩
    | false=>
     go_wp2_with fail;go_roundw;(case rel=>exact⟨i+1,by go_num,by omega,Hb4⟩);case measure=>simp[intOf];omega
  go_wp2_with fail;go_ret;exact⟨⟨_,rfl⟩,hb.out⟩
theorem hasBox_any(A:Option Addr)(n c:Nat)(B:Nat)(p:Addr)(w:World)(hr:RdL w A n c B)(hp:p.block<w.heap.size)(hs:p.spot=none)(hc:w.cell? p=some (.func (.func 170) #[] #[]))(hn:n<2 ^ 60):Calls prog 204 #[.slice A n c,.func (.func 205) #[] #[.pointer (some p)]] w fun r w'=>IsB r/\Bl w w':=by
 go_enter func204,ntmps204
 go_wp2_with fail;refine(idxBox_any A n c B p w hr hp hs hc hn).mono ?_;rintro _ w4 ⟨⟨q,rfl⟩,hb4⟩;go_wp2_with fail;go_ret;exact⟨⟨_,rfl⟩,hb4⟩
theorem allBox_any(A:Option Addr)(n c:Nat)(B:Nat)(w:World)(hr:RdL w A n c B)(hn:n<2 ^ 60):Calls prog 169 #[.slice A n c,.func (.func 170) #[] #[]] w fun r w'=>IsB r/\Bl w w':=by
 have h1:Bl w (w.alloc (.cells #[.func (.func 170) #[] #[]] 243)):=b0_;have HR:=hd_ (hr.below h1);have HB:=hd_ h1;clear hr h1;go_enter func169,ntmps169
 go_wp2_with fail;refine(hasBox_any A n c B ⟨w.heap.size,0,none⟩ _ HR.out s_ rfl s_ hn).mono ?_;rintro _ w4 ⟨⟨q,rfl⟩,hb4⟩;have HB4:=tb_ HB hb4;clear hb4;go_wp2_with fail;go_ret;exact⟨⟨_,rfl⟩,HB4.out⟩
theorem idxOps2_any(A:Option Addr)(n c:Nat)(l:List Int)(p:Addr)(w:World)(hr:OpsR w A n c l)(hp:p.block<w.heap.size)(hs:p.spot=none)(hc:w.cell? p=some (.func (.func 166) #[] #[]))(hn:n<2 ^ 60):Calls prog 190 #[.slice A n c,.func (.func 201) #[] #[.pointer (some p)]] w fun r w'=>(∃x,r=.returned (.int .i64 x))/\Bl w w':=by
 have HR:=hd_ hr;have HC:=hd_ hc;clear hr hc;go_enter func190,ntmps190
 go_wp2_with fail;go_loopw [8] (fun v wr=>∃i:Nat,v=.int .i64 i/\i<=n/\Hid (Bl w wr)) (fun v _=>n-(intOf v).toNat)
 case atStart=>exact⟨0,rfl,by omega,Below.refl _ _⟩
 case round=>
  obtain⟨i,rfl,hi,hb⟩:=hrel;by_cases hlt:i<n
  · obtain⟨b,o,x0,x1,x2,x3,x4,rfl,_,c0,c1,c2,c3,c4⟩:=(HR.out.below hb.out).at i hlt;have hcap:=HR.out.cap;go_wp2_with fail;refine(notOp_any x0 x1 x2 x3 x4 p _ (Nat.lt_of_lt_of_le hp hb.out.size) hs ((hb.out.cell hp).trans HC.out)).mono ?_;rintro _ w4 ⟨⟨q,rfl⟩,hb4⟩;have Hb4:=tb_ hb hb4;clear hb4 c0 c1 c2 c3 c4
    cases q with
    | true=>
     go_wp2_with fail;go_ret;exact⟨⟨_,rfl⟩,Hb4.out⟩
    | false=>
     go_wp2_with fail;go_roundw;(case rel=>exact⟨i+1,by go_num,by omega,Hb4⟩);case measure=>simp[intOf];omega
  go_wp2_with fail;go_ret;exact⟨⟨_,rfl⟩,hb.out⟩
theorem hasOps2_any(A:Option Addr)(n c:Nat)(l:List Int)(p:Addr)(w:World)(hr:OpsR w A n c l)(hp:p.block<w.heap.size)(hs:p.spot=none)(hc:w.cell? p=some (.func (.func 166) #[] #[]))(hn:n<2 ^ 60):Calls prog 148 #[.slice A n c,.func (.func 201) #[] #[.pointer (some p)]] w fun r w'=>IsB r/\Bl w w':=by
 go_enter func148,ntmps148
 go_wp2_with fail;refine(idxOps2_any A n c l p w hr hp hs hc hn).mono ?_;rintro _ w4 ⟨⟨q,rfl⟩,hb4⟩;go_wp2_with fail;go_ret;exact⟨⟨_,rfl⟩,hb4⟩
theorem allOps_any(A:Option Addr)(n c:Nat)(l:List Int)(w:World)(hr:OpsR w A n c l)(hn:n<2 ^ 60):Calls prog 165 #[.slice A n c,.func (.func 166) #[] #[]] w fun r w'=>IsB r/\Bl w w':=by
 have h1:Bl w (w.alloc (.cells #[.func (.func 166) #[] #[]] 220)):=b0_;have HR:=hd_ (hr.below h1);have HB:=hd_ h1;clear hr h1;go_enter func165,ntmps165
 go_wp2_with fail;refine(hasOps2_any A n c l ⟨w.heap.size,0,none⟩ _ HR.out s_ rfl s_ hn).mono ?_;rintro _ w4 ⟨⟨q,rfl⟩,hb4⟩;have HB4:=tb_ HB hb4;clear hb4;go_wp2_with fail;go_ret;exact⟨⟨_,rfl⟩,HB4.out⟩
end Go.Proofs.YtppjnahcnofokaaGreat.T
namespace Go.Proofs.YtppjnahcnofokaaGreat.T
open Go.RowKit Go.Proofs.YtppjnahcnofokaaGreatW.PrintLast
open Go.Proofs.Tryz
variable{k:IntKind}{a:Act}{b i n B base m fuel D B':Nat}{l ch t0:List Int}{w w' w1 w2:World}{t:TypeId}{P:Program}{cs xs vs l3:List Value}{A A':Option Addr}{o oi:Oper}{e s f st fl:Int}{ops:Array Oper}{rest l0:List Oper}{v:Value}{r:Option Nat}{rs rs2:List (Option Addr×Nat×Nat×List Int)}{E:Prop}{ad ai go:List Bool}{N:Act->Prop}{place:Nat->Option (Nat×Nat)}{bad:Bool}{es es':List (Int×List Int)}{T:List TypeId}
theorem info118:(prog.info? 118).map (·.size)=some 3:=by kernel_rfl
theorem OpsR.key{c:Nat}{g:Nat}(h:OpsR w A n c l)(hk:KeyAt w g s)(hc:w.grownBy w' (some g)):OpsR w' A n c l:=by
 refine⟨h.len,h.cap,fun h0=>?_⟩;obtain⟨b,o,e,hlt,hr⟩:=h.at_ h0;refine⟨b,o,e,Nat.lt_of_lt_of_le hlt hc.size,fun j v hv=>?_⟩;by_cases hb:b=g
 · exfalso;subst hb;obtain⟨_,d,p,m,u,hg,_⟩:=hk;(have hj:j<n*5:=by have h1:=(List.getElem?_eq_some_iff.1 hv).1;have h2:=h.len;omega);have hlen:=h.len;rw[ints_len]at hlen;(have hx:∀q,q<5->∃x,w.cell? ⟨b,o+(j / 5*5+q),none⟩=some (.int .i64 x):=fun q hq=>by(have hq2:j / 5*5+q<n*5:=by omega);exact⟨_,hr _ _ (ints_get (List.getElem?_eq_getElem o_))⟩);generalize j / 5*5=J at hx;have hcell:∀q,w.cell? ⟨b,q,none⟩=(KeyC s d p m u)[q]?:=fun q=>cell_of_row _ _ _ _ _ _ hg;(have hlast:o+J+4<7:=by obtain⟨x,hx4⟩:=hx 4 o_;rw[hcell]at hx4;have:=(Array.getElem?_eq_some_iff.1 hx4).1;simp[KeyC]at this;omega);have h1:=hx 0 o_;have h2:=hx 1 o_;simp only[hcell]at h1 h2;(have hcases:o+J=0\/o+J=1\/o+J=2:=by omega);obtain⟨x1,h1⟩:=h1;obtain⟨x2,h2⟩:=h2;rw[<-Nat.add_assoc]at h1 h2;rcases hcases with hq|hq|hq<;>rw[hq]at h1 h2<;>simp[KeyC]at h1 h2
 have:=hr j v hv;rw[<-this];exact World.cell?_of_block (hc.block b hlt (by simpa using hb))
structure AvS (w w':World) (e k:Int) (t ch:List Int) (ad:List Bool) (g:Nat) (s:Int):Prop where
 view:Cel w' w.heap.size 45 (vw e t ad k ch)
 res:Row w' (w.heap.size+1) .i64 118 3
 key:KeyAt w' g s
 old:g<w.heap.size
 frame:ChgK g w w'
theorem KeyAt.gr{g:Nat}{row:Option Nat}(h:KeyAt w g s)(hg:w.grownBy w' row)(hne:some g≠row):KeyAt w' g s:=by
 have hl:=h.lt;obtain⟨hs,d,p,m,u,h,hd⟩:=h;exact⟨hs,d,p,m,u,(hg.block g hl hne).trans h,hd⟩
theorem ChgK.grn{g:Nat}{w'':World}(h:ChgK g w w')(hg:w'.grownBy w'' (some b))(hb:w.heap.size<=b):ChgK g w w'':=
 ⟨hg.os.trans h.os,hg.tape.trans h.tape,hg.output.trans h.output,Nat.le_trans h.size hg.size,fun k hk hne=>(hg.block k (Nat.lt_of_lt_of_le hk h.size) (fun e=>by cases e;omega)).trans (h.block k hk hne)⟩
theorem AvS.gr{k:Int}{t:List Int}{g:Nat}(h:AvS w w1 e k t ch ad g s)(hg:w1.grownBy w2 (some b))(hb:w.heap.size+2<=b):AvS w w2 e k t ch ad g s:=
 ⟨h.view.grown hg s1_,h.res.grown hg s1_,h.key.gr hg (by have:=h.old;simp;omega),h.old,h.frame.grn hg o_⟩
theorem AvS.bel{k:Int}{t:List Int}{g:Nat}(h:AvS w w1 e k t ch ad g s)(hb:Bl w1 w2):AvS w w2 e k t ch ad g s:=
 ⟨h.view.below hb h.view.lt,h.res.below hb h.res.lt,h.key.below hb h.key.lt,h.old,h.frame.trans (ChgK.of_below hb)⟩
theorem AvS.kc{k:Int}{t:List Int}{g:Nat}(h:AvS w w1 e k t ch ad g s)(hk:KeyAt w2 g s)(hc:ChgK g w1 w2):AvS w w2 e k t ch ad g s:=
 ⟨h.view.grown hc.gr (by have:=h.old;simp;omega),h.res.grown hc.gr (by have:=h.old;simp;omega),hk,h.old,h.frame.trans hc⟩
theorem AvS.drew{k:Int}{t:List Int}{g:Nat}(h:AvS w w1 e k t ch ad g s):AvS w w1.drew e k t ch ad g s:=
 h.bel (Below.refl _ _).drew
def ApvR(r:Ending):Prop:=∃a E S x,r=.returned (.tuple #[voteV a E S,.int .i64 x])/\(x=0->0<=a/\a<8)
theorem apvEnd{k:Int}{t:List Int}{g:Nat}(h:AvS w w1 e k t ch ad g s)(hg:w1.grownBy w2 (some (w.heap.size+1))):KeyAt w2 g s/\ChgK g w w2:=
 ⟨h.key.gr hg (by have:=h.old;simp;omega),h.frame.grn hg o_⟩
theorem approve_any(e k f x:Int)(t ch:List Int)(ad:List Bool)(A:Option Addr)(n c:Nat)(l:List Int)(g:Nat)(s:Int)(w:World)(h:VwOk t ad ch)(hr:OpsR w A n c l)(hn:n<=1000)(hk:KeyAt w g s): Calls prog 61 #[.agg (vw e t ad k ch).toArray,.int .i64 x,.pointer (some ⟨g,0,none⟩),.int .i64 f,.slice A n c] w fun r w'=>ApvR r/\KeyAt w' g s/\ChgK g w w':=by
 obtain⟨w1,hW⟩:=ex_ (((w.alloc (.cells (vw e t ad k ch).toArray 45)).alloc (.cells #[.int .i64 0,.int .i64 0,.int .i64 0] 118)));have HS:Hid (AvS w w1 e k t ch ad g s):=by rw[hW];exact⟨(Cel.new _ rfl rfl).alloc _,Row.new [0,0,0] _ rfl s_,(hk.below b0_ hk.lt).below b0_ (by have:=hk.lt;simp;omega),hk.lt,ChgK.of_below (bal b0_)⟩
 have HR:Hid (OpsR w1 A n c l):=by rw[hW];exact hr.below (bal b0_)
 have hsz:w.heap.size+2<=w1.heap.size:=by rw[hW];simp
 have HV:=hd_ h;have HW:=hd_ hW;clear hW h hr hk;go_enter func61,ntmps61
 by_cases hn0:n=0
 · subst hn0;go_wp2_with (change wpList _ _ _ _ _ ((w.alloc (.cells (vw e t ad k ch).toArray 45)).alloc (.cells #[.int .i64 0,.int .i64 0,.int .i64 0] 118));rw[<-HW.out];refine store_blk rfl 118 (.tmp 10) (.tmp 20) rr (w.heap.size+1) .i64 [0,0,0] rr rr HS.out.res rfl info118 ?_;intro w10 hB10 hg10);have hload:=hB10.loads underlying118 rfl info118;refine bodyPost_ret (v:=.tuple #[voteV 0 0 0,.int .i64 1]) (by simp[results,results61,asAddr,Act.put,hload,voteV,ints]) rfl ⟨⟨0,0,0,_,rfl,by omega⟩,apvEnd HS.out hg10⟩
 · go_wp2_with (change wpList _ _ _ _ _ ((w.alloc (.cells (vw e t ad k ch).toArray 45)).alloc (.cells #[.int .i64 0,.int .i64 0,.int .i64 0] 118));rw[<-HW.out];refine wpList_load_mid rfl 45 (.tmp 5) rr w.heap.size 0 rr (vw e t ad k ch) _ HS.out.view.all underlying45 rfl (vw_hi HV.out) ?_);refine(apply_any e k f t ch ad A n c l w1 HV.out HR.out o_).mono ?_;rintro _ w5 ⟨⟨x0,e2,t2,ad2,k2,ch2,ai,go,rfl,hv2,hai,hgo,-⟩,hb5⟩;have HS5:=hd_ (HS.out.bel hb5);have HR5:=hd_ (HR.out.below hb5);have hsz5:w.heap.size+2<=w5.heap.size:=Nat.le_trans hsz hb5.size;have HV2:=hd_ hv2;clear hb5 hv2;by_cases hx0:x0=0
   · subst hx0;go_wp2_with (first|(refine wpList_load_mid rfl 45 (.tmp 5) rr w.heap.size 0 rr (vw e t ad k ch) _ HS6.out.view.all underlying45 rfl (vw_hi HV.out) ?_)|(change wpList _ _ _ _ _ (((w5.alloc (.cells zvw.toArray 45)).alloc (.cells (bools zb).toArray 41)).alloc (.cells (bools zb).toArray 41));refine stores3 rfl rfl rfl rfl rfl rfl (.tmp 12) (.tmp 26) (.tmp 13) (.tmp 27) (.tmp 14) (.tmp 28) rr rr rr rr rr rr rr rr rr HV2.out hai hgo ?_;intro w6 hA6 hB6 hC6 hb6;have HS6:=hd_ (HS5.out.bel hb6);have HR6:=hd_ (HR5.out.below hb6);clear hA6 hB6 hC6));refine(isAdmin_any e k x t ch ad _ HV.out).mono ?_;rintro _ w7 ⟨⟨q,rfl,hq⟩,hb7⟩;have HS7:=hd_ (HS6.out.bel hb7);have HR7:=hd_ (HR6.out.below hb7);have hsz7:w.heap.size+2<=w7.heap.size:=Nat.le_trans hsz5 (Nat.le_trans hb6.size hb7.size);clear hb7 hb6
     cases q with
     | false=>
      go_wp2_with (refine store_blk rfl 118 (.tmp 10) (.tmp 39) rr (w.heap.size+1) .i64 [0,0,0] rr rr HS7.out.res rfl info118 ?_;intro w10 hB10 hg10);have hload:=hB10.loads underlying118 rfl info118;refine bodyPost_ret (v:=.tuple #[voteV 0 0 0,.int .i64 6]) (by simp[results,results61,asAddr,Act.put,hload,voteV,ints]) rfl ⟨⟨0,0,0,_,rfl,by omega⟩,apvEnd HS7.out hg10⟩
     | true=>
      obtain⟨hm0,hm8⟩:=hq rfl
      obtain⟨m,rfl⟩:=Int.eq_ofNat_of_zero_le hm0
      have hm:m<8:=by omega
      clear hq
      obtain⟨L,hL⟩:∃L,t.getD (m*2) 0=L:=⟨_,rfl⟩
      have HL:=hd_ hL
      clear hL
      go_wp2_with fail
      refine pr_ 0 10 (bt 10 0) fun w1d hw1d=>?_
      refine mG ?_
      have hH:w1d.cell? ⟨w.heap.size,1+m*2,none⟩=some (.int .i64 L)/\Hid (AvS w w1d e k t ch ad g s):=by
       rw[<-hw1d];exact⟨(HS7.out.view.cell _).trans ((vw_tree HV.out _ o_).trans (by rw[HL.out])),HS7.out.drew⟩
      have HR8:Hid (OpsR w1d A n c l):=by rw[<-hw1d];exact HR7.out.below (Below.refl _ _).drew
      have hsz8:w.heap.size+2<=w1d.heap.size:=by rw[<-hw1d];exact hsz7
      clear hw1d
      refine wpAny_of_last (S:=fun w'=>w'.cell? ⟨w.heap.size,1+m*2,none⟩=some (.int .i64 L)/\Hid (AvS w w' e k t ch ad g s)/\Hid (OpsR w' A n c l)/\w.heap.size+2<=w'.heap.size) (ds:=[8,9]) _ _ _ _ ?_
      have hH:=And.intro hH.1 (And.intro hH.2 (And.intro HR8 hsz8))
      refine ts_ 0 1 9 (bt 10 1) hH ?_
      refine mT4 ?_
      refine ts_ 2 6 3 (bt 10 253) hH ?_
      refine mT4 ?_
      refine one_ (i:=1) (N:=some 42) (bt 10 255) rfl rfl kk dd (fun K hK=>?_)
      refine goes_ func50 kk rfl #[.pointer (some ⟨g,0,none⟩)] rr rfl rfl mL ?_
      refine(public_any g s _ hH.2.1.out.key).mono ?_
      rintro _ w9 ⟨rfl,hk9,hc9⟩
      refine⟨_,rfl,?_⟩
      refine hK.out _ _ ⟨((hH.2.1.out.kc hk9 hc9).view.cell _).trans ((vw_tree HV.out _ o_).trans (by rw[HL.out])),hH.2.1.out.kc hk9 hc9,OpsR.key hH.2.2.1.out hH.2.1.out.key hc9.gr,Nat.le_trans hH.2.2.2 hc9.size⟩ (fun hH=>?_)
      clear hK K hk9 hc9
      refine mN ?_
      refine tl_ 8 ?_
      refine mF ?_
      by_cases hpl:powF 4 s=L
      · subst hpl;have HS9:=hH.2.1;have HR9:=hH.2.2.1;have hsz9:=hH.2.2.2;go_wp2_with (refine wpList_load_mid rfl 45 (.tmp 5) rr w.heap.size 0 rr (vw e t ad k ch) _ hH.2.1.out.view.all underlying45 rfl (vw_hi HV.out) ?_);refine(paper_any e k f t ch ad A n c l _ HV.out HR9.out hn).mono ?_;rintro _ wa ⟨⟨lh,hlh,rfl⟩,hba⟩;have HSa:=hd_ (HS9.out.bel hba);have hsza:w.heap.size+2<=wa.heap.size:=Nat.le_trans hsz9 hba.size;have HSb:=hd_ (HSa.out.bel (bal (o:=.cells (ints .u8 zl).toArray 43) (Below.refl _ _)));have HZ:Hid (Row (wa.alloc (.cells (ints .u8 zl).toArray 43)) wa.heap.size .u8 43 32):=Row.new zl _ rfl rfl;have HLh:=hd_ hlh;clear hba hlh
        go_wp2_with (refine store_blk rfl 43 (.tmp 16) (.tmp 54) rr wa.heap.size .u8 lh rr rr HZ.out HLh.out (by show _=_;rw[HLh.out];exact info43) ?_
                     intro w10 hB10 hg10
                     have HSc:Hid (AvS w w10 e k (t) ch ad g s):=HSb.out.gr hg10 hsza
                     have HH:=hd_ hB10
                     clear hB10 hg10)
        refine(sign_any g s _ 32 32 lh w10 HSc.out.key (rd_blk HH.out HLh.out) dd).mono ?_;rintro _ w11 ⟨⟨E,S,rfl⟩,hk11,hc11⟩;have HSd:=hd_ (HSc.out.kc hk11 hc11);clear hk11 hc11;go_wp2_with (refine store_blk rfl 118 (.tmp 10) (.tmp 59) rr (w.heap.size+1) .i64 [m,E,S] rr rr HSd.out.res rfl info118 ?_;intro w12 hB12 hg12);have hload:=hB12.loads underlying118 rfl info118;refine bodyPost_ret (v:=.tuple #[voteV m E S,.int .i64 0]) (by simp[results,results61,asAddr,Act.put,hload,voteV,ints]) rfl ⟨⟨m,E,S,_,rfl,fun _=>⟨by omega,by omega⟩⟩,apvEnd HSd.out hg12⟩
      · have HS9:=hH.2.1;go_wp2_with (refine store_blk rfl 118 (.tmp 10) (.tmp 50) rr (w.heap.size+1) .i64 [0,0,0] rr rr HS9.out.res rfl info118 ?_;intro w10 hB10 hg10);have hload:=hB10.loads underlying118 rfl info118;refine bodyPost_ret (v:=.tuple #[voteV 0 0 0,.int .i64 10]) (by simp[results,results61,asAddr,Act.put,hload,voteV,ints]) rfl ⟨⟨0,0,0,_,rfl,by omega⟩,apvEnd HS9.out hg10⟩
   go_wp2_with (first|(refine store_blk rfl 118 (.tmp 10) (.tmp 32) rr (w.heap.size+1) .i64 [0,0,0] rr rr HS6.out.res rfl info118 ?_;intro w10 hB10 hg10)|(change wpList _ _ _ _ _ (((w5.alloc (.cells zvw.toArray 45)).alloc (.cells (bools zb).toArray 41)).alloc (.cells (bools zb).toArray 41));refine stores3 rfl rfl rfl rfl rfl rfl (.tmp 12) (.tmp 26) (.tmp 13) (.tmp 27) (.tmp 14) (.tmp 28) rr rr rr rr rr rr rr rr rr HV2.out hai hgo ?_;intro w6 hA6 hB6 hC6 hb6;have HS6:=hd_ (HS5.out.bel hb6);have HR6:=hd_ (HR5.out.below hb6);clear hA6 hB6 hC6));have hload:=hB10.loads underlying118 rfl info118;refine bodyPost_ret (v:=.tuple #[voteV 0 0 0,.int .i64 x0]) (by simp[results,results61,asAddr,Act.put,hload,voteV,ints]) rfl ⟨⟨0,0,0,_,rfl,fun h=>absurd h hx0⟩,apvEnd HS6.out hg10⟩
end Go.Proofs.YtppjnahcnofokaaGreat.T
namespace Go.Proofs.YtppjnahcnofokaaGreat.T
open Go.RowKit Go.Proofs.YtppjnahcnofokaaGreatW.PrintLast
open Go.Proofs.Tryz
variable{k:IntKind}{a:Act}{b i n B base m fuel D B':Nat}{l ch t0:List Int}{w w' w1 w2:World}{t:TypeId}{P:Program}{cs xs vs l3:List Value}{A A':Option Addr}{o oi:Oper}{e s f st fl:Int}{ops:Array Oper}{rest l0:List Oper}{v:Value}{r:Option Nat}{rs rs2:List (Option Addr×Nat×Nat×List Int)}{E:Prop}{ad ai go:List Bool}{N:Act->Prop}{place:Nat->Option (Nat×Nat)}{bad:Bool}{es es':List (Int×List Int)}{T:List TypeId}
def ToNumR(r:Ending):Prop:=∃x ok,r=.returned (.tuple #[.int .i64 x,.bool ok])/\0<=x
theorem toNum_any(A:Option Addr)(n c:Nat)(l:List Int)(w:World)(hr:Rd w .u8 A n c l)(hn:n<=1000000):Calls prog 172 #[.slice A n c] w fun r w'=>ToNumR r/\w=w':=by
 have HR:=hd_ hr;clear hr;go_enter func172,ntmps172
 go_wp2_with fail;go_loopw [4,9] (fun vx v wr=>∃(i:Nat) (x:Int),v=.int .i64 i/\vx=.int .i64 x/\i<=n/\w=wr) (fun _ v _=>n-(intOf v).toNat)
 case atStart=>exact⟨0,0,rfl,rfl,Nat.zero_le _,rfl⟩
 case round=>
  obtain⟨i,x,rfl,rfl,hi,rfl⟩:=hrel;by_cases hlt:i<n
  · obtain⟨b,o,rfl,_,_⟩:=HR.out.at_ (by have:=HR.out.cap;omega);obtain⟨y,hy⟩:=HR.out.cell i hlt;go_wp2_with fail;go_roundw;(case rel=>exact⟨i+1,_,by go_num,rfl,by omega,trivial⟩);case measure=>simp[intOf];omega
  by_cases h8:n=8
  · subst h8;by_cases hx:x<0;(· go_wp2_with fail;refine bodyPost_ret (v:=.tuple #[.int .i64 0,.bool false]) (by simp[results,results172,asAddr,Act.put]) rfl ⟨⟨_,_,rfl,by omega⟩,rfl⟩);go_wp2_with fail;refine bodyPost_ret (v:=.tuple #[.int .i64 x,.bool true]) (by simp[results,results172,asAddr,Act.put]) rfl ⟨⟨_,_,rfl,by omega⟩,rfl⟩
  go_wp2_with fail;refine bodyPost_ret (v:=.tuple #[.int .i64 0,.bool false]) (by simp[results,results172,asAddr,Act.put]) rfl ⟨⟨_,_,rfl,by omega⟩,rfl⟩
def LowA(A:Option Addr)(c D:Nat):Prop:=0<c->∃b o,A=some ⟨b,o,none⟩/\b<D
def RdrAt(w:World)(g D B:Nat)(bad:Bool):Prop:=∃A n c l,Cel w g 195 [.slice A n c,.bool bad]/\Rd w .u8 A n c l/\n<=B/\LowA A c D
theorem Rd.rdr{g c:Nat}{n' c':Nat}(h:Rd w .u8 A n c l)(hC:Cel w g 195 [.slice A' n' c',.bool bad])(hg:w.grownBy w' (some g)):Rd w' .u8 A n c l:=by
 refine⟨h.len,h.cap,fun h0=>?_⟩;obtain⟨b,o,e,hlt,hr⟩:=h.at_ h0;refine⟨b,o,e,Nat.lt_of_lt_of_le hlt hg.size,fun j v hv=>?_⟩;by_cases hb:b=g
 · exfalso;subst hb;have h1:=hr j v hv;obtain⟨x,hx⟩:∃x,v=.int .u8 x:=by
    rw[ints,List.getElem?_map]at hv
    cases hl:l[j]? with
    | none=>rw[hl]at hv;simp at hv
    | some x=>rw[hl]at hv;exact⟨x,by simpa using hv.symm⟩
   subst hx;rw[hC.cell]at h1;rcases hq:o+j with _|_|q<;>rw[hq]at h1<;>simp at h1
 rw[<-hr j v hv];exact World.cell?_of_block (hg.block b hlt (by simpa using hb))
theorem Rd.nil(w:World)(k:IntKind)(c:Nat)(h:c=0):Rd w k none 0 c []:=⟨rfl,by omega,fun h0=>by omega⟩
def TakeR(w:World)(g D B:Nat)(bad:Bool)(m:Int)(r:Ending)(w':World):Prop:=
 (∃A n c l bad',r=.returned (.slice A n c)/\Rd w' .u8 A n c l/\LowA A c D/\(n=0\/(n:Int)=m)/\n<=B/\RdrAt w' g D B bad'/\(bad'=false->bad=false/\(n:Int)=m))/\w.grownBy w' (some g)
theorem take_bad{g c:Nat}{m:Int}(hC:Cel w g 195 [.slice A n c,.bool bad])(hR:Rd w .u8 A n c l)(hn:n<=B)(hA:LowA A c D):TakeR w g D B bad m (.returned (.slice none 0 0)) (w.setCell ⟨g,1,none⟩ (.bool true)):=
 ⟨⟨none,0,0,[],true,rfl,Rd.nil _ _ _ rfl,fun h0=>by omega,.inl rfl,by omega,⟨A,n,c,l,hC.set 1 _,hR.rdr hC (grownBy_set1 _ _ _ _),hn,hA⟩,by simp⟩,grownBy_set1 _ _ _ _⟩
theorem rd_none(w:World)(k:IntKind)(A:Option Addr)(l:List Int)(h:l.length=0):Rd w k A 0 0 l:=⟨h,by omega,fun h0=>by omega⟩
theorem Rd.cutp{K:IntKind}{p:Addr}{c k:Nat}(h:Rd w K (some p) n c l)(hk:k<=n)(hne:¬c=k):Rd w K (some (p.add k)) (n-k) (c-k) (l.drop k):=by
 have hcap:=h.cap;obtain⟨b,o,e,_⟩:=h.at_ o_;obtain rfl:p=⟨b,o,none⟩:=by simpa using e
 have:=h.cut hk o_;rw[if_neg hne]at this;by_cases h0:k=0
 · subst h0;simpa[Addr.add] using this
 simpa[Addr.add,h0] using this
theorem LowA.add{p:Addr}{c k:Nat}(h:LowA (some p) c D):LowA (some (p.add k)) (c-k) D:=fun h0=>by
 obtain⟨b,o,e,hb⟩:=h o_
 obtain rfl:p=⟨b,o,none⟩:=by simpa using e
 by_cases hk:k=0
 · exact⟨b,o,by simp[Addr.add,hk],hb⟩
 · exact⟨b,o+k,by simp[Addr.add,hk],hb⟩
theorem take_ok{g c k:Nat}{A2:Option Addr}(hC:Cel w g 195 [.slice A n c,.bool false])(hR:Rd w .u8 A n c l)(hR2:Rd w .u8 A2 (n-k) (c-k) (l.drop k))(hk:k<=n)(hn:n<=B)(hA:LowA A c D)(hA2:LowA A2 (c-k) D):TakeR w g D B false k (.returned (.slice A k c)) (w.setCell ⟨g,0,none⟩ (.slice A2 (n-k) (c-k))):=
 ⟨⟨A,k,c,_,false,rfl,(hR.take hk).rdr hC (grownBy_set1 _ _ _ _),hA,.inr rfl,by omega,⟨A2,n-k,c-k,_,hC.set 0 _,hR2.rdr hC (grownBy_set1 _ _ _ _),by omega,hA2⟩,fun _=>⟨rfl,rfl⟩⟩,grownBy_set1 _ _ _ _⟩
theorem take_any(g D B:Nat)(bad:Bool)(m:Int)(w:World)(h:RdrAt w g D B bad)(_hB:B<=1000000):Calls prog 115 #[.pointer (some ⟨g,0,none⟩),.int .i64 m] w (TakeR w g D B bad m):=by
 obtain⟨A,n,c,l,hC,hR,hn,hA⟩:=h;have c0:w.cell? ⟨g,0,none⟩=some (.slice A n c):=by rw[hC.cell];rfl
 have c1:w.cell? ⟨g,1,none⟩=some (.bool bad):=by rw[hC.cell];rfl
 have f0:w.frozen? ⟨g,0,none⟩=false:=hC.free 0;have f1:w.frozen? ⟨g,1,none⟩=false:=hC.free 1;have HC:=hd_ hC;have HR:=hd_ hR;have HB:=hd_ (take_bad (m:=m) hC hR hn hA);have HA:=hd_ hA;clear hC hR hA;go_enter func115,ntmps115
 cases bad with
 | true=>
  go_wp2_with fail;go_ret;exact HB.out
 | false=>
  by_cases hm:m<0
  · go_wp2_with fail;go_ret;exact HB.out
  by_cases hgt:(n:Int)<m
  · go_wp2_with fail;go_ret;exact HB.out
  obtain⟨k,rfl⟩:=Int.eq_ofNat_of_zero_le (show 0<=m by omega);have hk:k<=n:=by omega
  have hcap:=HR.out.cap
  cases A with
  | none=>
   (obtain rfl:c=0:=by(rcases Nat.eq_zero_or_pos c with h|h);(· exact h);obtain⟨b,o,e,_⟩:=HR.out.at_ h;cases e);(obtain rfl:n=0:=by omega);(obtain rfl:k=0:=by omega);go_wp2_with fail;go_ret;exact take_ok (k:=0) HC.out HR.out (rd_none _ _ _ _ (by have:=HR.out.len;simpa using this)) (Nat.le_refl _) hn HA.out (fun h0=>by omega)
  | some p=>
   by_cases hck:c=k;(· subst hck;(obtain rfl:n=c:=by omega);have hc0:n<=n:=Nat.le_refl _;go_wp2_with fail;go_ret;have hz:=take_ok (A2:=some p) (k:=n) HC.out HR.out (by rw[Nat.sub_self];exact rd_none _ _ _ _ (by have:=HR.out.len;simp;omega)) (Nat.le_refl _) hn HA.out (fun h0=>by omega);rw[Nat.sub_self]at hz;exact hz);go_wp2_with fail;go_ret;exact take_ok (A2:=some (p.add k)) HC.out HR.out (HR.out.cutp hk hck) hk hn HA.out HA.out.add
def NumR(w:World)(g D B:Nat)(bad:Bool)(m:Int)(r:Ending)(w':World):Prop:=
 (∃x bad',r=.returned (.int .i64 x)/\0<=x/\x<=m/\RdrAt w' g D B bad'/\(bad'=false->bad=false))/\w.grownBy w' (some g)
theorem num_bad{g:Nat}{bad0:Bool}{m:Int}(hm:0<=m)(h:RdrAt w1 g D B bad)(hg:w.grownBy w1 (some g)):NumR w g D B bad0 m (.returned (.int .i64 0)) (w1.setCell ⟨g,1,none⟩ (.bool true)):=by
 obtain⟨A,n,c,l,hC,hR,hn,hA⟩:=h;exact⟨⟨0,true,rfl,Int.le_refl 0,hm,⟨A,n,c,l,hC.set 1 _,hR.rdr hC (grownBy_set1 _ _ _ _),hn,hA⟩,by simp⟩,grownBy_tr hg (grownBy_set1 _ _ _ _)⟩
theorem RdrAt.cells{g:Nat}(h:RdrAt w g D B bad):w.cell? ⟨g,1,none⟩=some (.bool bad)/\w.frozen? ⟨g,1,none⟩=false:=by
 obtain⟨A,n,c,l,hC,hR,hn,hA⟩:=h;exact⟨by rw[hC.cell];rfl,hC.free 1⟩
theorem num_r_any(g D B:Nat)(bad:Bool)(m:Int)(w:World)(h:RdrAt w g D B bad)(hB:B<=1000000)(hm:0<=m):Calls prog 116 #[.pointer (some ⟨g,0,none⟩),.int .i64 m] w (NumR w g D B bad m):=by
 go_enter func116,ntmps116
 go_wp2_with fail;refine(take_any g D B bad 8 w h hB).mono ?_;rintro _ w1 ⟨⟨A,n,c,l,bad1,rfl,hR,-,-,hn,hr1,hm1⟩,hg1⟩;have HM1:Hid (bad1=false->bad=false):=fun h=>(hm1 h).1;clear hm1;have HR1:=hd_ hr1;have HG1:=hd_ hg1;obtain⟨c1,f1⟩:=hr1.cells;clear hr1 hg1 h;go_wp2_with fail;refine(toNum_any A n c l w1 hR o_).mono ?_;rintro _ w2 ⟨⟨x,ok,rfl,hx⟩,rfl⟩
 cases ok with
 | false=>
  go_wp2_with fail;go_ret;exact num_bad hm HR1.out HG1.out
 | true=>
  by_cases hxm:m<x
  · go_wp2_with fail;go_ret;exact num_bad hm HR1.out HG1.out
  go_wp2_with fail;go_ret;exact⟨⟨x,bad1,rfl,hx,by omega,HR1.out,HM1.out⟩,HG1.out⟩
def RdrX(w:World)(g D B:Nat)(φ : Prop):Prop:=∃bad,RdrAt w g D B bad/\(bad=false->φ)
theorem RdrAt.below{g:Nat}(h:RdrAt w g D B bad)(hb:Bl w w'):RdrAt w' g D B bad:=by
 obtain⟨A,n,c,l,hC,hR,hn,hA⟩:=h;exact⟨A,n,c,l,hC.below hb hC.lt,hR.below hb,hn,hA⟩
theorem RdrAt.far{g:Nat}(h:RdrAt w g D B bad)(hg:w.grownBy w' (some b))(hne:b≠g)(hD:D<=b):RdrAt w' g D B bad:=by
 obtain⟨A,n,c,l,hC,hR,hn,hA⟩:=h;refine⟨A,n,c,l,hC.grown hg s1_,⟨hR.len,hR.cap,fun h0=>?_⟩,hn,hA⟩;obtain⟨b1,o1,e1,hlt⟩:=hA h0;obtain⟨b2,o2,e2,hlt2,hr2⟩:=hR.at_ h0;subst e1;obtain⟨rfl,rfl⟩:b1=b2/\o1=o2:=by simpa using e2
 exact⟨b1,o1,rfl,Nat.lt_of_lt_of_le hlt2 hg.size,fun j v hv=>by
  rw[<-hr2 j v hv]
  exact World.cell?_of_block (hg.block b1 hlt2 s1_)⟩
theorem RdrAt.lt{g:Nat}(h:RdrAt w g D B bad):g<w.heap.size:=by
 obtain⟨A,n,c,l,hC,hR,hn,hA⟩:=h;exact hC.lt
theorem own_base{b':Nat}(h:OwnB w b v n)(hb:b'<=b):OwnB w b' v n:=by
 obtain⟨l,hl,ho⟩:=h;exact⟨l,hl,own_mono ho hb⟩
theorem grownBy_far{g:Nat}(h:w.grownBy w1 (some g))(hg:w1.grownBy w2 (some b))(hb:w.heap.size<=b):w.grownBy w2 (some g):=
 ⟨hg.os.trans h.os,hg.tape.trans h.tape,hg.output.trans h.output,Nat.le_trans h.size hg.size,fun k hk hne=>(hg.block k (Nat.lt_of_lt_of_le hk h.size) (fun e=>by cases e;omega)).trans (h.block k hk hne)⟩
theorem box_r_any(g D B:Nat)(bad:Bool)(w:World)(h:RdrAt w g D B bad)(hB:B<=1000000):Calls prog 118 #[.pointer (some ⟨g,0,none⟩)] w fun r w'=>(∃A n c,r=.returned (.slice A n c)/\OwnB w' w.heap.size (.slice A n c) n/\n<=300/\n<=B/\RdrX w' g D B (bad=false))/\w.grownBy w' (some g):=by
 go_enter func118,ntmps118
 go_wp2_with fail;refine(num_r_any g D B bad 300 w h hB dd).mono ?_;rintro _ w1 ⟨⟨x,bad1,rfl,hx0,hx,hr1,hm1⟩,hg1⟩;have HM1:=hd_ hm1;clear hm1;have HG1:=hd_ hg1;clear hg1;go_wp2_with fail;refine(take_any g D B bad1 x w1 hr1 hB).mono ?_;rintro _ w2 ⟨⟨A,n,c,l,bad2,rfl,hR,-,hnx,hn,hr2,hm2⟩,hg2⟩;have HM2:Hid (bad2=false->bad=false):=fun h=>HM1.out (hm2 h).1;clear hm2;have HR2:=hd_ hr2;have HG2:=hd_ (grownBy_tr HG1.out hg2);clear hr2 hg2 hr1;go_wp2_with fail;refine(bclone_any A n c l w2 hR o_).mono ?_;rintro _ w3 ⟨⟨A3,c3,rfl,ho3⟩,hb3⟩;have HR3:=hd_ (HR2.out.below hb3);have HO3:=hd_ (own_base ho3 HG2.out.size);have HG3:=hd_ (grownBy_tr HG2.out (grownBy_of hb3));clear hb3 ho3;go_wp2_with fail;go_ret;exact⟨⟨A3,n,c3,rfl,HO3.out,by omega,hn,bad2,HR3.out,HM2.out⟩,HG3.out⟩
theorem info116':(prog.info? 116).map (·.size)=some 2:=by kernel_rfl
theorem sig_r_any(g D B:Nat)(bad:Bool)(w:World)(h:RdrAt w g D B bad)(hB:B<=1000000)(hD:D<=w.heap.size):Calls prog 126 #[.pointer (some ⟨g,0,none⟩)] w fun r w'=>(∃E S:Int,r=.returned (.agg #[.int .i64 E,.int .i64 S])/\RdrX w' g D B (bad=false))/\w.grownBy w' (some g):=by
 obtain⟨w0,hW⟩:=ex_ (w.alloc (.cells #[.int .i64 0,.int .i64 0] 116));have hb0:=nb_ hW;have HZ:Hid (Row w0 w.heap.size .i64 116 2):=by rw[hW];exact Row.new [0,0] _ rfl rfl
 have HR0:=hd_ (h.below hb0);have hlt:g<w.heap.size:=h.lt;have HG0:Hid (w.grownBy w0 (some g)):=grownBy_of hb0;have hs0:w.heap.size<w0.heap.size:=HZ.out.lt;have HW:=hd_ hW;clear h hb0 hW;go_enter func126,ntmps126
 go_wp2_with ((change Calls _ _ _ (w.alloc (.cells #[.int .i64 0,.int .i64 0] 116)) _);fail);rw[<-HW.out];refine(num_r_any g D B bad 1073741788 w0 HR0.out hB dd).mono ?_;rintro _ w1 ⟨⟨x,bad1,rfl,-,-,hr1,hm1⟩,hg1⟩;have HM1:=hd_ hm1;clear hm1;have HG1:=hd_ (grownBy_tr HG0.out hg1);have HZ1:=hd_ (HZ.out.grown hg1 s1_);clear hg1;go_wp2_with fail;refine(num_r_any g D B bad1 1073741788 w1 hr1 hB dd).mono ?_;rintro _ w2 ⟨⟨y,bad2,rfl,-,-,hr2,hm2⟩,hg2⟩;have HM2:Hid (bad2=false->bad=false):=fun h=>HM1.out (hm2 h);clear hm2;have HG2:=hd_ (grownBy_tr HG1.out hg2);have HZ2:=hd_ (HZ1.out.grown hg2 s1_);have HR2:=hd_ hr2;clear hg2 hr1 hr2;go_wp2_with (refine store_blk rfl 116 (.tmp 2) (.tmp 9) rr w.heap.size .i64 [x,y] rr rr HZ2.out rfl info116' ?_;intro w3 hB3 hg3);have hload:=hB3.loads underlying116 rfl info116';refine bodyPost_ret (v:=.agg (ints .i64 [x,y]).toArray) (by simp[results,results126,asAddr,Act.put,hload]) rfl ⟨⟨x,y,rfl,bad2,HR2.out.far hg3 o_ hD,HM2.out⟩,grownBy_far HG2.out hg3 (Nat.le_refl _)⟩
end Go.Proofs.YtppjnahcnofokaaGreat.T
namespace Go.Proofs.YtppjnahcnofokaaGreat.T
open Go.RowKit Go.Proofs.YtppjnahcnofokaaGreatW.PrintLast
open Go.Proofs.Tryz
variable{k:IntKind}{a:Act}{b i n B base m fuel D B':Nat}{l ch t0:List Int}{w w' w1 w2:World}{t:TypeId}{P:Program}{cs xs vs l3:List Value}{A A':Option Addr}{o oi:Oper}{e s f st fl:Int}{ops:Array Oper}{rest l0:List Oper}{v:Value}{r:Option Nat}{rs rs2:List (Option Addr×Nat×Nat×List Int)}{E:Prop}{ad ai go:List Bool}{N:Act->Prop}{place:Nat->Option (Nat×Nat)}{bad:Bool}{es es':List (Int×List Int)}{T:List TypeId}
theorem RdrX.below{g:Nat}{φ : Prop}(h:RdrX w g D B φ)(hb:Bl w w'):RdrX w' g D B φ:=by
 obtain⟨bad,h,hp⟩:=h;exact⟨bad,h.below hb,hp⟩
theorem RdrX.far{g:Nat}{φ : Prop}(h:RdrX w g D B φ)(hg:w.grownBy w' (some b))(hne:b≠g)(hD:D<=b):RdrX w' g D B φ:=by
 obtain⟨bad,h,hp⟩:=h;exact⟨bad,h.far hg hne hD,hp⟩
theorem RdrAt.low{g K:Nat}(h:RdrAt w g D B bad)(hb:Below K w w')(hg:g<K)(hD:D<=K):RdrAt w' g D B bad:=by
 obtain⟨A,n,c,l,hC,hR,hn,hA⟩:=h;refine⟨A,n,c,l,hC.below hb hg,⟨hR.len,hR.cap,fun h0=>?_⟩,hn,hA⟩;obtain⟨b1,o1,e1,hlt⟩:=hA h0;obtain⟨b2,o2,e2,hlt2,hr2⟩:=hR.at_ h0;subst e1;obtain⟨rfl,rfl⟩:b1=b2/\o1=o2:=by simpa using e2
 exact⟨b1,o1,rfl,Nat.lt_of_lt_of_le hlt2 hb.size,fun j v hv=>by
  rw[<-hr2 j v hv]
  exact hb.cell (p:=⟨b1,o1+j,none⟩) (by show b1<K;omega)⟩
theorem grownBy_low{g K:Nat}(h:w.grownBy w1 (some g))(hb:Below K w1 w2)(hK:w.heap.size<=K):w.grownBy w2 (some g):=
 ⟨hb.os.trans h.os,hb.tape.trans h.tape,hb.output.trans h.output,Nat.le_trans h.size hb.size,fun k hk hne=>(hb.block k o_).trans (h.block k hk hne)⟩
structure OpS (w w':World) (g D B:Nat) (φ : Prop):Prop where
 rdr:RdrX w' g D B φ
 res:Row w' w.heap.size .i64 55 5
 row:Row w' (w.heap.size+1) .i64 251 5
 old:g<w.heap.size
 low:D<=w.heap.size
 frame:w.grownBy w' (some g)
theorem OpS.g{g:Nat}{φ : Prop}(h:OpS w w1 g D B φ)(hr:RdrX w2 g D B φ)(hg:w1.grownBy w2 (some g)):OpS w w2 g D B φ:=
 ⟨hr,h.res.grown hg (by have:=h.old;simp;omega),h.row.grown hg (by have:=h.old;simp;omega),h.old,h.low,grownBy_tr h.frame hg⟩
theorem OpS.set{g:Nat}{x:Int}{φ : Prop}(h:OpS w w1 g D B φ):OpS w (w1.setCell ⟨w.heap.size+1,i,none⟩ (.int .i64 x)) g D B φ:=
 have hg:=grownBy_set1 w1 (w.heap.size+1) i (.int .i64 x)
 ⟨h.rdr.far hg (by have:=h.old;omega) (by have:=h.low;omega),h.res.grown hg s_,h.row.set i x,h.old,h.low,grownBy_far h.frame hg o_⟩
theorem info55:(prog.info? 55).map (·.size)=some 5:=by kernel_rfl
theorem op_r_any(g D B:Nat)(bad:Bool)(w:World)(h:RdrAt w g D B bad)(hB:B<=1000000)(hD:D<=w.heap.size):Calls prog 125 #[.pointer (some ⟨g,0,none⟩)] w fun r w'=>(∃a b c d e:Int,r=.returned (opv a b c d e)/\RdrX w' g D B (bad=false))/\w.grownBy w' (some g):=by
 obtain⟨w0,hW⟩:=ex_ ((w.alloc (.cells #[.int .i64 0,.int .i64 0,.int .i64 0,.int .i64 0,.int .i64 0] 55)).alloc (.cells #[.int .i64 0,.int .i64 0,.int .i64 0,.int .i64 0,.int .i64 0] 251));have HS:Hid (OpS w w0 g D B (bad=false)):=by rw[hW];exact⟨(RdrX.below ⟨bad,h,id⟩ (bal b0_)),(Row.new [0,0,0,0,0] _ rfl rfl).alloc _,Row.new [0,0,0,0,0] _ rfl s_,h.lt,hD,grownBy_of (bal b0_)⟩
 have HW:=hd_ hW;clear h hW;go_enter func125,ntmps125
 go_wp2_with ((change Code.wp _ _ _ _ ((w.alloc (.cells #[.int .i64 0,.int .i64 0,.int .i64 0,.int .i64 0,.int .i64 0] 55)).alloc (.cells #[.int .i64 0,.int .i64 0,.int .i64 0,.int .i64 0,.int .i64 0] 251)));fail);rw[<-HW.out];go_loopw [5] (fun v wr=>∃i:Nat,v=.int .i64 i/\i<=5/\Hid (OpS w wr g D B (bad=false))) (fun v _=>5-(intOf v).toNat)
 case atStart=>exact⟨0,rfl,by omega,HS⟩
 case round=>
  obtain⟨i,rfl,hi,HR⟩:=hrel;by_cases hlt:i<5
  · obtain⟨bad1,hr1,hp1⟩:=HR.out.rdr;have HP1:=hd_ hp1;clear hp1;go_wp2_with fail;refine(num_r_any g D B bad1 1099511627776 _ hr1 hB dd).mono ?_;rintro _ w1 ⟨⟨x,bad2,rfl,-,-,hr2,hm2⟩,hg2⟩;have HS2:=hd_ (HR.out.g ⟨bad2,hr2,fun h=>HP1.out (hm2 h)⟩ hg2);obtain⟨y,c0⟩:=HS2.out.row.at i hlt;have f0:=HS2.out.row.free i;clear hr1 hr2 hg2 hm2;go_wp2_with fail;go_roundw;(case rel=>exact⟨i+1,by go_num,by omega,HS2.out.set⟩);case measure=>simp[intOf];omega
  obtain⟨x0,c0⟩:=HR.out.row.at 0 dd;obtain⟨x1,c1⟩:=HR.out.row.at 1 dd;obtain⟨x2,c2⟩:=HR.out.row.at 2 dd;obtain⟨x3,c3⟩:=HR.out.row.at 3 dd;obtain⟨x4,c4⟩:=HR.out.row.at 4 dd;go_wp2_with (refine store_blk rfl 55 (.tmp 2) (.tmp 24) rr w.heap.size .i64 [x0,x1,x2,x3,x4] rr rr HR.out.res rfl info55 ?_;intro w3 hB3 hg3);have hload:=hB3.loads underlying55 rfl info55;refine bodyPost_ret (v:=opv x0 x1 x2 x3 x4) (by simp[results,results125,asAddr,Act.put,hload,opv,ints]) rfl ⟨⟨x0,x1,x2,x3,x4,rfl,HR.out.rdr.far hg3 (by have:=HR.out.old;omega) HR.out.low⟩,grownBy_far HR.out.frame hg3 (Nat.le_refl _)⟩
theorem addr_add(b o j:Nat):(⟨b,o,none⟩:Addr).add j=⟨b,o+j,none⟩:=by
 by_cases h:j=0
 · subst h;simp[Addr.add]
 simp[Addr.add,h]
theorem copy_into{Q:Exit->Act->World->Prop}(hgd:o.guard=none)(d s:Operand)(ho:o.op=.call {callee:=.builtin .copy,args:=#[d,s],argTypes:=#[31,31] })(g N n c:Nat)(t:TypeId)(A:Option Addr)(l:List Int)(hd:a.eval d=.slice (some ⟨g,0,none⟩) N N)(hs:a.eval s=.slice A n c)(hr:Rd w .u8 A n c l)(hn:n<=N)(hg:Row w g .u8 t N)(h:∀w',Row w' g .u8 t N->Below g w w'->(Value.int .i64 n=Value.int .i64 n)->wpList prog ops Q rest (a.put o.dst (goInt n)) w'):wpList prog ops Q (o :: rest) a w:=by
 obtain⟨l0,hl0,hB⟩:=hg;have hlen:=hr.len;have hcs:(ints .u8 l).length=n:=by rw[ints_len,hlen]
 refine wpList_copy_splice hgd d s 31 31 ho 5 underlying31 kk (some ⟨g,0,none⟩) A N N n c hd hs g 0 (ints .u8 l0) t hB (ints .u8 l) (by rw[hcs];exact(Nat.min_eq_left hn).symm) ?_ (by rw[hcs,ints_len];omega) ?_ g w (Below.refl _ _) (Nat.le_refl _) ?_
 · intro h0;obtain⟨b,o',e,hlt,hrr⟩:=hr.at_ (by have:=hr.cap;omega);exact⟨rfl,⟨b,o',none⟩,e,fun j v hv=>by rw[addr_add];exact hrr j v hv⟩
 · intro v hv;simp only[ints,List.mem_map]at hv;obtain⟨x,_,rfl⟩:=hv;rfl
 intro w' hg' hb';rw[hcs];refine h w' ⟨l0.take 0++(l++l0.drop (0+l.length)),by simp;omega,?_⟩ hb' rfl;have:=hg'.out;unfold Blk;rw[this,splice];simp[ints]
theorem hash_r_any(g D B:Nat)(bad:Bool)(w:World)(h:RdrAt w g D B bad)(hB:B<=1000000)(hD:D<=w.heap.size):Calls prog 119 #[.pointer (some ⟨g,0,none⟩)] w fun r w'=>(IsH r/\RdrX w' g D B (bad=false))/\w.grownBy w' (some g):=by
 obtain⟨w0,hW⟩:=ex_ ((w.alloc (.cells (ints .u8 zl).toArray 43)).alloc (.cells (ints .u8 zl).toArray 43));have hb0:Bl w w0:=by rw[hW];exact bal b0_
 have HZ0:Hid (Row w0 w.heap.size .u8 43 32):=by rw[hW];exact(Row.new zl _ rfl rfl).alloc _
 have HZ1:Hid (Row w0 (w.heap.size+1) .u8 43 32):=by rw[hW];exact Row.new zl _ rfl s_
 have HR0:=hd_ (h.below hb0);have hlt:g<w.heap.size:=h.lt;have HG0:Hid (w.grownBy w0 (some g)):=grownBy_of hb0;have HW:=hd_ hW;clear h hb0 hW;go_enter func119,ntmps119
 go_wp2_with fail;refine pr_ 0 4 (bt 4 0) fun w1d hw1d=>?_;refine mG ?_;have HR1:Hid (RdrAt w1d g D B bad):=by rw[<-hw1d];exact(show RdrAt ((w.alloc (.cells (ints .u8 zl).toArray 43)).alloc (.cells (ints .u8 zl).toArray 43)).drew g D B bad from by rw[<-HW.out];exact HR0.out.below (Below.refl _ _).drew)
 have HZA:Hid (Row w1d w.heap.size .u8 43 32):=by rw[<-hw1d];exact(show Row ((w.alloc (.cells (ints .u8 zl).toArray 43)).alloc (.cells (ints .u8 zl).toArray 43)).drew _ _ _ _ from by rw[<-HW.out];exact HZ0.out.drew)
 have HZB:Hid (Row w1d (w.heap.size+1) .u8 43 32):=by rw[<-hw1d];exact(show Row ((w.alloc (.cells (ints .u8 zl).toArray 43)).alloc (.cells (ints .u8 zl).toArray 43)).drew _ _ _ _ from by rw[<-HW.out];exact HZ1.out.drew)
 have HG1:Hid (w.grownBy w1d (some g)):=by rw[<-hw1d];exact(show w.grownBy ((w.alloc (.cells (ints .u8 zl).toArray 43)).alloc (.cells (ints .u8 zl).toArray 43)).drew (some g) from by rw[<-HW.out];exact grownBy_drew' HG0.out)
 clear hw1d;refine wpAny_of_last (S:=fun w'=>w'=w1d) (ds:=[1,2,3]) _ _ _ _ ?_;have hH:w1d=w1d:=rfl;refine ps_ 0 1 3 (bt 4 1) ?_;refine mT1 ?_;refine tl_ 1 ?_;refine mF ?_;go_wp2_with fail;refine(take_any g D B bad 32 w1d HR1.out hB).mono ?_;rintro _ w3 ⟨⟨A,n,c,l,bad3,rfl,hR3,-,hn,-,hr3,hm3⟩,hg3⟩;have HM3:Hid (bad3=false->bad=false):=fun h=>(hm3 h).1;clear hm3;have HR3:=hd_ hr3;have HA3:=hd_ (HZA.out.grown hg3 s1_);have HB3:=hd_ (HZB.out.grown hg3 s1_);have HG3:=hd_ (grownBy_tr HG1.out hg3);have HD3:=hd_ hR3;clear hr3 hg3 hR3 hH;have hn32:n<=32:=by omega
 go_wp2_with (first
  | (refine copy_into rfl (.tmp 4) (.tmp 6) rr (w.heap.size+1) 32 n c 43 A l rr rr HD3.out hn32 HB3.out ?_;intro w4 hB4 hb4 _;obtain⟨l4,hl4,hB4⟩:=hB4;have HB4:=hd_ hB4;have HL4:=hd_ hl4;have HA4:=hd_ (HA3.out.below hb4 o_);have HR4:=hd_ (HR3.out.low hb4 o_ o_);have HG4:=hd_ (grownBy_low HG3.out hb4 o_);clear hB4 hl4 hb4)
  | (refine wpList_load_mid rfl 43 (.tmp 3) rr (w.heap.size+1) 0 rr (ints .u8 l4) _ HB4.out.range underlying43 rfl (hi43 HL4.out).out ?_)
  | (refine store_blk rfl 43 (.tmp 2) (.tmp 8) rr w.heap.size .u8 l4 rr rr HA4.out HL4.out (by show _=_;rw[HL4.out];exact info43) ?_;intro w5 hB5 hg5))
 have hload:=hB5.loads underlying43 rfl (by show _=_;rw[HL4.out];exact info43);refine bodyPost_ret (v:=.agg (ints .u8 l4).toArray) (by simp[results,results119,asAddr,Act.put,hload]) rfl ⟨⟨⟨l4,HL4.out,rfl⟩,bad3,HR4.out.far hg5 o_ hD,HM3.out⟩,grownBy_far HG4.out hg5 (Nat.le_refl _)⟩
end Go.Proofs.YtppjnahcnofokaaGreat.T
namespace Go.Proofs.YtppjnahcnofokaaGreat.T
open Go.RowKit Go.Proofs.YtppjnahcnofokaaGreatW.PrintLast
open Go.Proofs.Tryz
variable{k:IntKind}{a:Act}{b i n B base m fuel D B':Nat}{l ch t0:List Int}{w w' w1 w2:World}{t:TypeId}{P:Program}{cs xs vs l3:List Value}{A A':Option Addr}{o oi:Oper}{e s f st fl:Int}{ops:Array Oper}{rest l0:List Oper}{v:Value}{r:Option Nat}{rs rs2:List (Option Addr×Nat×Nat×List Int)}{E:Prop}{ad ai go:List Bool}{N:Act->Prop}{place:Nat->Option (Nat×Nat)}{bad:Bool}{es es':List (Int×List Int)}{T:List TypeId}
theorem nums_any(A:Option Addr)(n c:Nat)(l:List Int)(w:World)(hr:Rd w .i64 A n c l)(hn:n<=1000):Calls prog 112 #[.slice A n c] w fun r w'=>OwnR w (n*8) r w'/\Bl w w':=by
 have HR:=hd_ hr;clear hr;go_enter func112,ntmps112
 go_wp2_with fail;go_loopw [3,8] (fun vx v wr=>∃(i m:Nat) (A3:Option Addr) (c3:Nat),v=.int .i64 i/\vx=.slice A3 m c3/\i<=n/\m=i*8/\Hid (OwnB wr w.heap.size (.slice A3 m c3) m)/\Hid (Bl w wr)) (fun _ v _=>n-(intOf v).toNat)
 case atStart=>exact⟨0,0,none,0,rfl,rfl,Nat.zero_le _,rfl,OwnB.nil _ _,Below.refl _ _⟩
 case round=>
  obtain⟨wa,rfl⟩:=ex_ (wr);obtain⟨i,m,A3,c3,rfl,rfl,hi,hm,hO,hb⟩:=hrel;have HM:=hd_ hm;have hm2:m<=8000:=by omega
  clear hm;by_cases hlt:i<n
  · obtain⟨b,o,x,rfl,k0⟩:=(HR.out.below hb.out).ntat i hlt;have hcap:=HR.out.cap;go_wp2_with fail;refine(num_any x wa).mono ?_;rintro _ w4 ⟨⟨A4,c4,l4,rfl,ho4,hl4⟩,hb4⟩;have HR4:Hid (Rd w4 .u8 A4 8 c4 l4):=rd_own ho4 hl4;obtain⟨l3,hl3,hO3⟩:=hO.out.below hb4;have HO3:=hd_ hO3;have HL3:=hd_ hl3;have Hb4:=tb_ hb hb4;clear hb4 ho4 hl4 hO3 hl3 k0;go_wp2_with (at_builtin;refine append_rg rfl (.tmp 12) (.tmp 14) 31 rfl w.heap.size 5 1 1 et31 (.slice A3 m c3) m (ints .u8 l3) rfl HO3.out A4 8 c4 (ints .u8 l4) rfl HR4.out.rg ints_one o_ (by unfold maxLen;omega) Hb4.out.size ?_;intro A7 c7 w7 hown7 hgrow hb7 hat);have HO7:Hid (OwnB w7 w.heap.size (.slice A7 (m+8) c7) (m+8)):=OwnB.app HL3.out HR4.out.len hown7;have Hb7:=hd_ (Hb4.out.trans hb7);clear hown7 hgrow hb7 hat;go_wp2_with fail;go_roundw;(case rel=>exact⟨i+1,m+8,A7,c7,by go_num,rfl,by omega,by have:=HM.out;omega,HO7,Hb7⟩);case measure=>simp[intOf];omega
  go_wp2_with fail;go_ret;have e:n*8=m:=by have:=HM.out;omega
  rw[e];exact⟨⟨_,_,rfl,hO.out⟩,hb.out⟩
theorem info5:∃i z,prog.info? 5=some i/\i.zero=some z/\i.size=1/\i.bytes=1/\z=.int .u8 0:=by
 obtain⟨ht,i,z,hi,hz,h1,h2,h3,h4⟩:=et31;refine⟨i,z,hi,hz,h1,h2,?_⟩;have:(prog.info? 5).bind (·.zero)=some (.int .u8 0):=by kernel_rfl
 rw[hi]at this;simp[hz]at this;exact this
theorem grow_any(n:Nat)(w:World)(hn:n<=100000000):Calls prog 171 #[.slice none 0 0,.int .i64 n] w fun r w'=>OwnR w 0 r w'/\Bl w w':=by
 obtain⟨i,z,hi,hz,h1,h2,rfl⟩:=info5;go_enter func171,ntmps171
 by_cases h0:n=0
 · subst h0;go_wp2_with fail;go_ret;exact⟨⟨_,_,rfl,OwnB.nil _ _⟩,Below.refl _ _⟩
 have happ:=Lib.run_append_nil_zeros (P:=prog) w 31 3 31 5 i (.int .u8 0) .i64 .i64 underlying31 underlying3 hi hz n o_ o_ o_ (by rw[h2];omega);have hcap:=grownCap_ge w n 0 5;have hcap2:=grownCap_le_maxLen w n 0 5 (by unfold maxLen;omega);obtain⟨W1,hW1⟩:=ex_ (w.drew.alloc (.cells (Builtin.zeroCells (Value.int .u8 0).cells n++Builtin.zeroCells (Value.int .u8 0).cells (grownCap w n 0 5-n)) 5));obtain⟨C,hC⟩:=ex_ (grownCap w n 0 5);have hown:OwnB W1 w.heap.size (.slice (some ⟨w.heap.size,0,none⟩) 0 C) 0:=by refine⟨[],rfl,rfl,.inr ⟨w.heap.size,C,_,rfl,Nat.le_refl _,by rw[hW1];exact heap_alloc_new w.drew _,by omega,by rw[hC];exact hcap2,?_,by simp[ints]⟩⟩;rw[Array.size_append,size_zeroCells,size_zeroCells,hC];simp[Value.cells];omega
 have hb:Bl w W1:=by rw[hW1];exact(Below.refl _ _).drew.alloc (Nat.le_refl _) _
 have HO:=hd_ hown;have HB:=hd_ hb;clear hown hb;rw[<-hW1,<- hC]at happ;have HW:=hd_ hW1;have HC:=hd_ hC;have HA:=hd_ happ;clear hW1 hC happ hi hz;go_wp2_with (at_builtin;refine Lib.wpList_append_run w rfl (.tmp 20) (.tmp 21) 31 3 rfl _ _ rfl rfl _ _ HA.out ?_);go_ret;exact⟨⟨_,_,rfl,HO.out⟩,HB.out⟩
def lens(rs:List (Option Addr×Nat×Nat×List Int)):Nat:=(rs.map (fun r=>r.2.1)).sum
theorem RdR.at{c:Nat}(h:RdR w A n c B rs)(i:Nat)(hi:i<n):∃b o A' n' c' l',A=some ⟨b,o,none⟩/\b<w.heap.size/\w.cell? ⟨b,o+i,none⟩=some (.slice A' n' c')/\Rd w .u8 A' n' c' l'/\n'<=B/\lens (rs.take (i+1))=lens (rs.take i)+n':=by
 have hlen:=h.len;have hcap:=h.rg.cap;obtain⟨b,o,e,hlt,hr⟩:=h.rg.at_ o_;have hq:rs[i]? = some rs[i]:=List.getElem?_eq_getElem o_;have hm:=h.each rs[i] (List.getElem_mem _);refine⟨b,o,_,_,_,_,e,hlt,hr i _ (by rw[List.getElem?_map,hq];rfl),hm.1,hm.2,?_⟩;rw[List.take_add_one,hq];simp only[lens,Option.toList,List.map_append,List.map_cons,List.map_nil,List.sum_append,List.sum_cons,List.sum_nil,Nat.add_zero]
theorem lens_le(rs:List (Option Addr×Nat×Nat×List Int))(h:∀r ∈ rs,r.2.1<=B):lens rs<=rs.length*B:=by
 induction rs with
 | nil=>simp[lens]
 | cons r rs ih=>
  have h1:=ih (fun x hx=>h x (List.mem_cons_of_mem _ hx));have h2:=h r List.mem_cons_self;simp only[lens,List.map_cons,List.sum_cons,List.length_cons]at h1 ⊢;rw[Nat.add_mul];omega
theorem RdR.lens_take{c:Nat}(h:RdR w A n c B rs)(i:Nat):lens (rs.take i)<=n*B:=by
 refine Nat.le_trans (lens_le (rs.take i) (fun r hr=>(h.each r (List.mem_of_mem_take hr)).2)) (Nat.mul_le_mul_right B ?_);rw[List.length_take,h.len];omega
theorem concat_any(A:Option Addr)(n c B:Nat)(rs:List (Option Addr×Nat×Nat×List Int))(w:World)(hr:RdR w A n c B rs)(hn:n<=20)(hB:B<=1000000):Calls prog 110 #[.slice A n c] w fun r w'=>OwnR w (lens rs) r w'/\Bl w w':=by
 have HR:=hd_ hr;have hS:∀i,lens (rs.take i)<=20000000:=fun i=>Nat.le_trans (hr.lens_take i) (Nat.mul_le_mul hn hB);have HS:=hd_ hS;have hz:lens (rs.take 0)=0:=rfl;have HZ:=hd_ hz;have he:lens (rs.take n)=lens rs:=by rw[<-hr.len,List.take_length]
 have HE:=hd_ he;clear hr hS hz he;go_enter func110,ntmps110
 go_wp2_with fail;go_loopw [3,11] (fun vx v wr=>∃(i:Nat) (m:Nat),v=.int .i64 i/\vx=.int .i64 m/\i<=n/\Hid (m=lens (rs.take i))/\w=wr) (fun _ v _=>n-(intOf v).toNat)
 case atStart=>exact⟨0,0,rfl,rfl,Nat.zero_le _,HZ.out.symm,rfl⟩
 case round=>
  obtain⟨i,m,rfl,rfl,hi,HM,rfl⟩:=hrel
  by_cases hlt:i<n
  · obtain⟨b,o,A',n',c',l',rfl,_,k0,_,hn',hl⟩:=HR.out.at i hlt;have hcap:=HR.out.rg.cap;(have hm:m+n'<=20000000:=by have:=HS.out (i+1);have:=HM.out;omega);(have HL:Hid (m+n'=lens (rs.take (i+1))):=by have:=HM.out;show _=_;omega);(have hneg:¬((m:Int)+(n':Int)<0):=by omega);clear hl;go_wp2_with fail
    all_goals first
     | (exfalso;omega)
     | (go_roundw
        case rel=>exact⟨i+1,m+n',by go_num,by go_num,by omega,HL,trivial⟩
        case measure=>simp[intOf];omega)
  · (obtain rfl:i=n:=by omega);(have hm:m<=20000000:=by have:=HS.out i;have:=HM.out;omega);go_wp2_with fail;refine(grow_any m w o_).mono ?_;rintro _ w1 ⟨⟨A1,c1,rfl,ho1⟩,hb1⟩;have HO1:=hd_ ho1;have HB1:=hd_ hb1;clear ho1 hb1;go_wp2_with fail;(go_loopw [6,27] (fun vx v wr=>∃(j q:Nat) (A3:Option Addr) (c3:Nat),v=.int .i64 j/\vx=.slice A3 q c3/\j<=i/\Hid (q=lens (rs.take j))/\Hid (OwnB wr w.heap.size (.slice A3 q c3) q)/\Hid (Bl w wr)) (fun _ v _=>i-(intOf v).toNat));(case atStart=>exact⟨0,0,A1,c1,rfl,rfl,Nat.zero_le _,HZ.out.symm,HO1,HB1⟩);case round=>
     obtain⟨wa,rfl⟩:=ex_ (wr);obtain⟨j,q,A3,c3,rfl,rfl,hj,HQ,HO,HB⟩:=hrel;by_cases hlj:j<i;(· obtain⟨b,o,A',n',c',l',rfl,hbl,k0,hrd,hn',hl⟩:=HR.out.at j hlj;have hcap:=HR.out.rg.cap;(have hq:q+n'<=20000000:=by have:=HS.out (j+1);have:=HQ.out;omega);(have HL:Hid (q+n'=lens (rs.take (j+1))):=by have:=HQ.out;show _=_;omega);have k1:wa.cell? ⟨b,o+j,none⟩=some (.slice A' n' c'):=(HB.out.cell (p:=⟨b,o+j,none⟩) hbl).trans k0;have HR4:Hid (Rd wa .u8 A' n' c' l'):=hrd.below HB.out;obtain⟨l3,hl3,hO3⟩:=HO.out;have HO3:=hd_ hO3;have HL3:=hd_ hl3;clear hl k0 hrd hO3 hl3;go_wp2_with (at_builtin;refine append_rg rfl (.tmp 31) (.tmp 32) 31 rfl w.heap.size 5 1 1 et31 (.slice A3 q c3) q (ints .u8 l3) rfl HO3.out A' n' c' (ints .u8 l') rfl HR4.out.rg ints_one o_ (by unfold maxLen;omega) HB.out.size ?_;intro A7 c7 w7 hown7 hgrow hb7 hat);have HO7:Hid (OwnB w7 w.heap.size (.slice A7 (q+n') c7) (q+n')):=OwnB.app HL3.out HR4.out.len hown7;have Hb7:=hd_ (HB.out.trans hb7);clear hown7 hgrow hb7 hat;go_wp2_with fail;go_roundw;(case rel=>exact⟨j+1,q+n',A7,c7,by go_num,rfl,by omega,HL,HO7,Hb7⟩);case measure=>simp[intOf];omega);(obtain rfl:j=i:=by omega);go_wp2_with fail;go_ret;(have e:lens rs=q:=by have:=HQ.out;have:=HE.out;omega);rw[e];exact⟨⟨_,_,rfl,HO.out⟩,HB.out⟩
theorem Rd.str{c:Nat}(h:Rd w .u8 A n c l):∃s,(convert 31 9 (.slice A n c)).run prog w=.ok (.string s) w:=by
 cases A with
 | none=>exact⟨_,run_convert_bytes_nil w 31 5 underlying31 underlying5 n c 9 underlying9⟩
 | some p=>
  have hcap:=h.cap;have hlen:=h.len;by_cases h0:0<c
  · obtain⟨b,o,e,hlt,hr⟩:=h.at_ h0;(obtain rfl:p=⟨b,o,none⟩:=by simpa using e);exact⟨_,run_convert_bytes_arg w 31 5 underlying31 underlying5 b o n c l hlen (fun i hi=>hr i _ (ints_get (by rw[List.getD_eq_getElem?_getD,List.getElem?_eq_getElem o_];rfl))) 9 underlying9⟩
  obtain rfl:n=0:=by omega
  refine⟨ByteArray.empty,?_⟩;rw[run_convert_bytes_string w 31 9 5 _ 0 c underlying31 underlying5 underlying9];simp[Conv.bytesToString,loadCells];rfl
theorem bytesEq_any(A A2:Option Addr)(n c n2 c2:Nat)(l l2:List Int)(w:World)(hr:Rd w .u8 A n c l)(hr2:Rd w .u8 A2 n2 c2 l2):Calls prog 120 #[.slice A n c,.slice A2 n2 c2] w fun r w'=>IsB r/\w=w':=by
 obtain⟨s1,h1⟩:=hr.str;obtain⟨s2,h2⟩:=hr2.str;clear hr hr2;go_enter func120,ntmps120
 go_wp2_with fail;go_ret;exact⟨⟨_,rfl⟩,rfl⟩
theorem slEq_any(A A2:Option Addr)(n c n2 c2:Nat)(l l2:List Int)(w:World)(hr:Rd w .u8 A n c l)(hr2:Rd w .u8 A2 n2 c2 l2)(hn:n<2 ^ 60):Calls prog 177 #[.slice A n c,.slice A2 n2 c2] w fun r w'=>IsB r/\Bl w w':=by
 have HR:=hd_ hr;have HR2:=hd_ hr2;clear hr hr2;go_enter func177,ntmps177
 by_cases hne:n=n2
 · subst hne;go_wp2_with fail;(go_loopw [13] (fun v wr=>∃i:Nat,v=.int .i64 i/\i<=n/\Hid (Bl w wr)) (fun v _=>n-(intOf v).toNat));(case atStart=>exact⟨0,rfl,by omega,Below.refl _ _⟩);case round=>
    obtain⟨i,rfl,hi,hb⟩:=hrel;by_cases hlt:i<n;(· replace HR:Hid (Rd wr .u8 A n c l):=HR.out.below hb.out;replace HR2:Hid (Rd wr .u8 A2 n c2 l2):=HR2.out.below hb.out;obtain⟨b,o,rfl,_,_⟩:=HR.out.at_ (by have:=HR.out.cap;omega);obtain⟨b2,o2,rfl,_,_⟩:=HR2.out.at_ (by have:=HR2.out.cap;omega);go_wp2_with fail;refine pr_ 0 9 (bt 9 0) fun w1d hw1d=>?_;refine mG ?_;(have hr1:Hid (Rd w1d .u8 (some ⟨b,o,none⟩) n c l):=by rw[<-hw1d];exact HR.out.drew);(have hr2:Hid (Rd w1d .u8 (some ⟨b2,o2,none⟩) n c2 l2):=by rw[<-hw1d];exact HR2.out.drew);(have hb1:Hid (Bl w w1d):=by rw[<-hw1d];exact hb.out.drew);obtain⟨y1,k1⟩:=hr1.out.cell i hlt;obtain⟨y2,k2⟩:=hr2.out.cell i hlt;have hcap:=hr1.out.cap;have hcap2:=hr2.out.cap;clear hw1d;refine wpAny_of_last (S:=fun w'=>w'=w1d) (ds:=[8]) _ _ _ _ ?_;have hH:w1d=w1d:=rfl;refine ts_ 0 8 1 (bt 9 255) hH ?_;refine mD ?_;refine uQ ?_;refine takes_nil ?_;refine tl_ 8 ?_;refine mF ?_;by_cases hy:y1=y2;(· subst hy;go_wp2_with fail;go_roundw;(case rel=>exact⟨i+1,by go_num,by omega,hb1⟩);case measure=>simp[intOf];omega);go_wp2_with fail;go_ret;exact⟨⟨_,rfl⟩,hb1.out⟩);go_wp2_with fail;go_ret;exact⟨⟨_,rfl⟩,hb.out⟩
 go_wp2_with fail;go_ret;exact⟨⟨_,rfl⟩,Below.refl _ _⟩
end Go.Proofs.YtppjnahcnofokaaGreat.T
namespace Go.Proofs.YtppjnahcnofokaaGreat.T
open Go.RowKit Go.Proofs.YtppjnahcnofokaaGreatW.PrintLast
open Go.Proofs.Tryz
variable{k:IntKind}{a:Act}{b i n B base m fuel D B':Nat}{l ch t0:List Int}{w w' w1 w2:World}{t:TypeId}{P:Program}{cs xs vs l3:List Value}{A A':Option Addr}{o oi:Oper}{e s f st fl:Int}{ops:Array Oper}{rest l0:List Oper}{v:Value}{r:Option Nat}{rs rs2:List (Option Addr×Nat×Nat×List Int)}{E:Prop}{ad ai go:List Bool}{N:Act->Prop}{place:Nat->Option (Nat×Nat)}{bad:Bool}{es es':List (Int×List Int)}{T:List TypeId}
def VwX(w:World)(b:Nat):Prop:=∃e t ad k ch,VwOk t ad ch/\Cel w b 45 (vw e t ad k ch)
theorem ints_set(l:List Int)(i:Nat)(x:Int):(ints .i64 l).set i (.int .i64 x)=ints .i64 (l.set i x):=by simp[ints,List.map_set]
theorem vw_set_e{k:Int}{t:List Int}(x:Int):(vw e t ad k ch).set 0 (.int .i64 x)=vw x t ad k ch:=rfl
theorem vw_set_t{k:Int}{t:List Int}(h:VwOk t ad ch)(i:Nat)(hi:i<31)(x:Int):(vw e t ad k ch).set (1+i) (.int .i64 x)=vw e (t.set i x) ad k ch:=by
 unfold vw;have h1:=h.tree;rw[List.set_append_right _ _ s_,List.set_append_left _ _ (by simp[ints_len];omega),show 1+i - [Value.int IntKind.i64 e].length=i by simp,ints_set]
theorem VwX.sete(h:VwX w b)(x:Int):VwX (w.setCell ⟨b,0,none⟩ (.int .i64 x)) b:=by
 obtain⟨e,t,ad,k,ch,hv,hC⟩:=h;exact⟨x,t,ad,k,ch,hv,by have:=hC.set 0 (.int .i64 x);rwa [vw_set_e]at this⟩
theorem VwX.setk(h:VwX w b)(x:Int):VwX (w.setCell ⟨b,40,none⟩ (.int .i64 x)) b:=by
 obtain⟨e,t,ad,k,ch,hv,hC⟩:=h;exact⟨e,t,ad,x,ch,hv,by have:=hC.set 40 (.int .i64 x);rwa [vw_set_k hv]at this⟩
theorem VwX.sett(h:VwX w b)(i:Nat)(hi:i<31)(x:Int):VwX (w.setCell ⟨b,1+i,none⟩ (.int .i64 x)) b:=by
 obtain⟨e,t,ad,k,ch,hv,hC⟩:=h;exact⟨e,t.set i x,ad,k,ch,⟨by rw[List.length_set];exact hv.tree,hv.admins,hv.chain⟩,by have:=hC.set (1+i) (.int .i64 x);rwa [vw_set_t hv i hi]at this⟩
theorem VwX.seta(h:VwX w b)(i:Nat)(hi:i<8)(q:Bool):VwX (w.setCell ⟨b,32+i,none⟩ (.bool q)) b:=by
 obtain⟨e,t,ad,k,ch,hv,hC⟩:=h;exact⟨e,t,ad.set i q,k,ch,⟨hv.tree,by rw[List.length_set];exact hv.admins,hv.chain⟩,by have:=hC.set (32+i) (.bool q);rwa [vw_set_admin hv i hi]at this⟩
theorem VwX.cell(h:VwX w b)(i:Nat)(hi:i<73):∃v,w.cell? ⟨b,i,none⟩=some v:=by
 obtain⟨e,t,ad,k,ch,hv,hC⟩:=h;exact⟨_,(hC.cell i).trans (List.getElem?_eq_getElem (by rw[vw_len hv];exact hi))⟩
theorem VwX.free(h:VwX w b)(i:Nat):w.frozen? ⟨b,i,none⟩=false:=by
 obtain⟨e,t,ad,k,ch,hv,hC⟩:=h;exact hC.free i
theorem VwX.grown{row:Option Nat}(h:VwX w b)(hg:w.grownBy w' row)(hne:some b≠row):VwX w' b:=by
 obtain⟨e,t,ad,k,ch,hv,hC⟩:=h;exact⟨e,t,ad,k,ch,hv,hC.grown hg hne⟩
theorem vw_csplit{k:Int}{t:List Int}:vw e t ad k ch=([.int .i64 e]++(ints .i64 t++(bools ad ++ [.int .i64 k])))++ints .u8 ch ++ []:=by simp[vw]
theorem Rd.lowg{c:Nat}(h:Rd w .u8 A n c l)(hA:LowA A c D)(hg:w.grownBy w' (some b))(hD:D<=b):Rd w' .u8 A n c l:=by
 refine⟨h.len,h.cap,fun h0=>?_⟩;obtain⟨b1,o1,e1,hlt⟩:=hA h0;obtain⟨b2,o2,e2,hlt2,hr2⟩:=h.at_ h0;subst e1;obtain⟨rfl,rfl⟩:b1=b2/\o1=o2:=by simpa using e2
 exact⟨b1,o1,rfl,Nat.lt_of_lt_of_le hlt2 hg.size,fun j v hv=>by
  rw[<-hr2 j v hv]
  exact World.cell?_of_block (hg.block b1 hlt2 s1_)⟩
theorem RdrX.imp{g:Nat}{φ ψ : Prop}(h:RdrX w g D B φ)(hi:φ->ψ):RdrX w g D B ψ:=by
 obtain⟨bad,h,hp⟩:=h;exact⟨bad,h,fun e=>hi (hp e)⟩
structure ViewS (w w':World) (g D B:Nat) (φ : Prop):Prop where
 rdr:RdrX w' g D B φ
 res:Cel w' w.heap.size 45 zvw
 vw:VwX w' (w.heap.size+1)
 old:g<w.heap.size
 low:D<=w.heap.size
 frame:w.grownBy w' (some g)
theorem ViewS.g{φ : Prop}{g:Nat}(h:ViewS w w1 g D B φ)(hr:RdrX w2 g D B φ)(hg:w1.grownBy w2 (some g)):ViewS w w2 g D B φ:=
 ⟨hr,h.res.grown hg (by have:=h.old;simp;omega),h.vw.grown hg (by have:=h.old;simp;omega),h.old,h.low,grownBy_tr h.frame hg⟩
theorem ViewS.put{φ : Prop}{g:Nat}(h:ViewS w w1 g D B φ)(hg:w1.grownBy w2 (some (w.heap.size+1)))(hv:VwX w2 (w.heap.size+1)):ViewS w w2 g D B φ:=
 ⟨h.rdr.far hg (by have:=h.old;omega) (by have:=h.low;omega),h.res.grown hg s_,hv,h.old,h.low,grownBy_far h.frame hg o_⟩
theorem ViewS.set{φ : Prop}{g:Nat}(h:ViewS w w1 g D B φ)(hv:VwX (w1.setCell ⟨w.heap.size+1,i,none⟩ v) (w.heap.size+1)):ViewS w (w1.setCell ⟨w.heap.size+1,i,none⟩ v) g D B φ:=
 h.put (grownBy_set1 _ _ _ _) hv
def IsVw(r:Ending):Prop:=∃e t ad k ch,r=.returned (.agg (vw e t ad k ch).toArray)/\VwOk t ad ch
theorem view_r_any(g D B:Nat)(bad:Bool)(w:World)(h:RdrAt w g D B bad)(hB:B<=1000000)(hD:D<=w.heap.size):Calls prog 117 #[.pointer (some ⟨g,0,none⟩)] w fun r w'=>(IsVw r/\RdrX w' g D B (bad=false))/\w.grownBy w' (some g):=by
 obtain⟨w0,hW⟩:=ex_ ((w.alloc (.cells zvw.toArray 45)).alloc (.cells zvw.toArray 45));have HS:Hid (ViewS w w0 g D B (bad=false)):=by rw[hW];exact⟨RdrX.below ⟨bad,h,id⟩ (bal b0_),(Cel.new zvw rfl rfl).alloc _,⟨0,z31,zb,0,z32,zvOk,Cel.new _ s_ rfl⟩,h.lt,hD,grownBy_of (bal b0_)⟩
 have HR:Hid (RdrAt w0 g D B bad):=by rw[hW];exact h.below (bal b0_)
 have HW:=hd_ hW;clear h hW;go_enter func117,ntmps117
 go_wp2_with ((change Calls _ _ _ ((w.alloc (.cells zvw.toArray 45)).alloc (.cells zvw.toArray 45)) _);fail);change Calls _ _ _ ((w.alloc (.cells zvw.toArray 45)).alloc (.cells zvw.toArray 45)) _;rw[<-HW.out];refine(num_r_any g D B bad 1099511627776 w0 HR.out hB dd).mono ?_;rintro _ w1 ⟨⟨x1,bad1,rfl,-,-,hr1,hmw1⟩,hg1⟩;have HM1:Hid (bad1=false->bad=false):=hmw1;have HS1:=hd_ (HS.out.g ⟨bad1,hr1,HM1.out⟩ hg1);clear hmw1;clear hg1;go_wp2_with fail;refine(num_r_any g D B bad1 8 w1 hr1 hB dd).mono ?_;rintro _ w2 ⟨⟨x2,bad2,rfl,-,-,hr2,hmw2⟩,hg2⟩;have HS2:=hd_ (HS1.out.g ⟨bad2,hr2,fun h=>HM1.out (hmw2 h)⟩ hg2);clear hmw2;obtain⟨v0,c0⟩:=HS2.out.vw.cell 0 dd;have f0:=HS2.out.vw.free 0;have HS3:=hd_ (HS2.out.set (HS2.out.vw.sete x1));obtain⟨v1,c1⟩:=HS3.out.vw.cell 40 dd;have f1:=HS3.out.vw.free 40;have HS4:=hd_ (HS3.out.set (HS3.out.vw.setk x2));obtain⟨W4,hW4⟩:=ex_ ((w2.setCell ⟨w.heap.size+1,0,none⟩ (.int .i64 x1)).setCell ⟨w.heap.size+1,40,none⟩ (.int .i64 x2));rw[<-hW4]at HS4;have HW4:=hd_ hW4;clear hW4 hg2 hr1 hr2;go_wp2_with fail;rw[<-HW4.out];clear c0 f0 c1 f1 HW4 HS3 HS2;obtain⟨bad4,hr4,hp4⟩:=HS4.out.rdr;have HP4:=hd_ hp4;clear hp4;refine(take_any g D B bad4 8 W4 hr4 hB).mono ?_;rintro _ w5 ⟨⟨A,n,c,l,bad5,rfl,hR5,hA5,hn8,hnB,hr5,hm5⟩,hg5⟩;have HS5:=hd_ (HS4.out.g ⟨bad5,hr5,fun h=>HP4.out (hm5 h).1⟩ hg5);clear hm5;have HR5:=hd_ hR5;have HA5:=hd_ hA5;have hn:n<=8:=by omega
 clear hr4 hr5 hg5 hR5 hA5 hn8;go_wp2_with fail;go_loopw [17] (fun v wr=>∃i:Nat,v=.int .i64 i/\i<=n/\Hid (ViewS w wr g D B (bad=false))/\Hid (Rd wr .u8 A n c l)) (fun v _=>n-(intOf v).toNat)
 case atStart=>exact⟨0,rfl,by omega,HS5,HR5⟩
 case round=>
  obtain⟨i,rfl,hi,HSi,HRi⟩:=hrel
  by_cases hlt:i<n
  · obtain⟨b,o,rfl,_,_⟩:=HRi.out.at_ (by have:=HRi.out.cap;omega);obtain⟨y,hy⟩:=HRi.out.cell i hlt;obtain⟨v0,c0⟩:=HSi.out.vw.cell (32+i) o_;have f0:=HSi.out.vw.free (32+i);(have hi8:(i:Int)<8:=by omega);go_wp2_with fail;go_roundw;(case rel=>exact⟨i+1,by go_num,by omega,HSi.out.set (HSi.out.vw.seta i o_ _),HRi.out.lowg HA5.out (grownBy_set1 _ _ _ _) (by have:=HSi.out.low;omega)⟩);case measure=>simp[intOf];omega
  · obtain⟨wa,rfl⟩:=ex_ (wr);clear HRi;go_wp2_with fail;obtain⟨bad6,hr6,hp6⟩:=HSi.out.rdr;have HP6:=hd_ hp6;clear hp6;refine(hash_r_any g D B bad6 wa hr6 hB (Nat.le_trans HSi.out.low HSi.out.frame.size)).mono ?_;rintro _ w7 ⟨⟨⟨lh,hlh,rfl⟩,hr7⟩,hg7⟩;have HS7:=hd_ (HSi.out.g (hr7.imp HP6.out) hg7);have HLh:=hd_ hlh;obtain⟨e7,t7,ad7,k7,ch7,hv7,hC7⟩:=HS7.out.vw;have HC7:=hd_ hC7;have HV7:=hd_ hv7;clear hlh hr7 hg7 hr6 hC7 hv7
    go_wp2_with (refine store_cel rfl 43 (.tmp 30) (.tmp 29) rr (w.heap.size+1) 41 45 ([.int .i64 e7]++(ints .i64 t7++(bools ad7 ++ [.int .i64 k7]))) (ints .u8 ch7) [] (ints .u8 lh) rr rr (by rw[<-vw_csplit];exact HC7.out) (by simp[ints_len,bools_len,HV7.out.tree,HV7.out.admins]) (by rw[ints_len,ints_len,HLh.out,HV7.out.chain]) (hi43 HLh.out).out (all_ints _ _) ?_
                 intro w8 hC8 hg8
                 have HS8:Hid (ViewS w w8 g D B (bad=false)):=HS7.out.put hg8 ⟨e7,t7,ad7,k7,lh,⟨HV7.out.tree,HV7.out.admins,HLh.out⟩,by rw[vw_csplit];exact hC8⟩
                 clear hC8 hg8)
    (go_loopw [31] (fun v wr=>∃j:Nat,v=.int .i64 j/\j<=8/\Hid (ViewS w wr g D B (bad=false))) (fun v _=>8-(intOf v).toNat));(case atStart=>exact⟨0,rfl,by omega,HS8⟩)
    case round=>
     obtain⟨j,rfl,hj,HSj⟩:=hrel
     by_cases hlt:j<8
     · obtain⟨bad9,hr9,hp9⟩:=HSj.out.rdr;have HP9:=hd_ hp9;clear hp9;go_wp2_with fail;refine(num_r_any g D B bad9 2147483579 _ hr9 hB dd).mono ?_;rintro _ wb ⟨⟨y1,badb,rfl,-,-,hrb,hmwb⟩,hgb⟩;have HSb:=hd_ (HSj.out.g ⟨badb,hrb,fun h=>HP9.out (hmwb h)⟩ hgb);clear hmwb;obtain⟨v0,c0⟩:=HSb.out.vw.cell (1+j*2) o_;have f0:=HSb.out.vw.free (1+j*2);have HSc:=hd_ (HSb.out.set (HSb.out.vw.sett (j*2) o_ y1));(have hj8:(j:Int)<8:=by omega);obtain⟨badc,hrc,hpc⟩:=HSc.out.rdr;have HPC:=hd_ hpc;clear hpc;clear hr9 hrb hgb;go_wp2_with fail;refine(num_r_any g D B badc 2147483579 _ hrc hB dd).mono ?_;rintro _ wd ⟨⟨y2,badd,rfl,-,-,hrd,hmwd⟩,hgd⟩;have HSd:=hd_ (HSc.out.g ⟨badd,hrd,fun h=>HPC.out (hmwd h)⟩ hgd);clear hmwd;obtain⟨v1,c1⟩:=HSd.out.vw.cell (1+j*2+1) o_;have f1:=HSd.out.vw.free (1+j*2+1);clear hrc hrd hgd c0 f0;go_wp2_with fail;go_roundw;(case rel=>exact⟨j+1,by go_num,by omega,HSd.out.set (by have:=HSd.out.vw.sett (j*2+1) o_ y2;rwa [<-Nat.add_assoc]at this)⟩);case measure=>simp[intOf];omega
     · obtain⟨wc,rfl⟩:=ex_ (wr);go_wp2_with fail;(go_loopw [49] (fun v wr=>∃m:Nat,v=.int .i64 m/\m<=15/\Hid (ViewS w wr g D B (bad=false))) (fun v _=>15-(intOf v).toNat));(case atStart=>exact⟨0,rfl,by omega,HSj⟩)
       case round=>
        obtain⟨m,rfl,hm,HSm⟩:=hrel
        by_cases hlt:m<15
        · obtain⟨bad9,hr9,hp9⟩:=HSm.out.rdr;have HP9:=hd_ hp9;clear hp9;go_wp2_with fail;refine(num_r_any g D B bad9 2147483579 _ hr9 hB dd).mono ?_;rintro _ wb ⟨⟨y1,badb,rfl,-,-,hrb,hmwb⟩,hgb⟩;have HSb:=hd_ (HSm.out.g ⟨badb,hrb,fun h=>HP9.out (hmwb h)⟩ hgb);clear hmwb;obtain⟨v0,c0⟩:=HSb.out.vw.cell (17+m) o_;have f0:=HSb.out.vw.free (17+m);(have hm15:(m:Int)<15:=by omega);clear hr9 hrb hgb;go_wp2_with fail;go_roundw;(case rel=>exact⟨m+1,by go_num,by omega,HSb.out.set (by have:=HSb.out.vw.sett (16+m) o_ y1;rwa [<-Nat.add_assoc]at this)⟩);case measure=>simp[intOf];omega
        · obtain⟨e9,t9,ad9,k9,ch9,hv9,hC9⟩:=HSm.out.vw;have HC9:=hd_ hC9;have HV9:=hd_ hv9;clear hC9 hv9
          go_wp2_with (first
           | (refine wpList_load_mid rfl 45 (.tmp 3) rr (w.heap.size+1) 0 rr (vw e9 t9 ad9 k9 ch9) _ HC9.out.all underlying45 rfl (vw_hi HV9.out) ?_)
           | (refine store_cel rfl 45 (.tmp 2) (.tmp 59) rr w.heap.size 0 45 [] zvw [] (vw e9 t9 ad9 k9 ch9) rr rr (by simpa using HSm.out.res) rfl (by rw[vw_len HV9.out,zvw,vw_len zvOk]) (vw_hi HV9.out) (all_oneCell_toArray (vw_all _ _ _ _ _)) ?_;intro w9 hC hg))
          have hload:=Cel.vload (show Cel w9 w.heap.size 45 (vw e9 t9 ad9 k9 ch9) by simpa using hC) HV9.out;refine bodyPost_ret (v:=.agg (vw e9 t9 ad9 k9 ch9).toArray) (by simp[results,results117,asAddr,Act.put,hload]) rfl ⟨⟨⟨e9,t9,ad9,k9,ch9,rfl,HV9.out⟩,HSm.out.rdr.far hg (by have:=HSm.out.old;omega) HSm.out.low⟩,grownBy_far HSm.out.frame hg (Nat.le_refl _)⟩
end Go.Proofs.YtppjnahcnofokaaGreat.T
namespace Go.Proofs.YtppjnahcnofokaaGreat.T
open Go.RowKit Go.Proofs.YtppjnahcnofokaaGreatW.PrintLast
open Go.Proofs.Tryz
variable{k:IntKind}{a:Act}{b i n B base m fuel D B':Nat}{l ch t0:List Int}{w w' w1 w2:World}{t:TypeId}{P:Program}{cs xs vs l3:List Value}{A A':Option Addr}{o oi:Oper}{e s f st fl:Int}{ops:Array Oper}{rest l0:List Oper}{v:Value}{r:Option Nat}{rs rs2:List (Option Addr×Nat×Nat×List Int)}{E:Prop}{ad ai go:List Bool}{N:Act->Prop}{place:Nat->Option (Nat×Nat)}{bad:Bool}{es es':List (Int×List Int)}{T:List TypeId}
structure CmP where
 e:Int
 f:Int
 O:Value
 V:Value
 s:Int
 p0:Int
 p1:Int
 p2:Int
 X:Value
 tag:List Int
 E:Int
 S:Int
def cmC(x:CmP):List Value:=[.int .i64 x.e,.int .i64 x.f,x.O,x.V,.int .i64 x.s,.int .i64 x.p0,.int .i64 x.p1,.int .i64 x.p2,x.X]++(ints .u8 x.tag ++ [.int .i64 x.E,.int .i64 x.S])
structure CmOk (w:World) (x:CmP):Prop where
 tag:x.tag.length=32
 ops:∃A n c l,x.O=.slice A n c/\OpsR w A n c l/\n<=4
 votes:∃A n c l,x.V=.slice A n c/\VoteR w A n c l/\n<=8
 boxes:∃A n c,x.X=.slice A n c/\RdL w A n c 300/\n<=30
theorem CmOk.below{x:CmP}(h:CmOk w x)(hb:Bl w w'):CmOk w' x:=by
 obtain⟨h1,⟨A,n,c,l,e1,h2,h3⟩,⟨A4,n4,c4,l4,e4,h5,h6⟩,⟨A7,n7,c7,e7,h8,h9⟩⟩:=h;exact⟨h1,⟨A,n,c,l,e1,h2.below hb,h3⟩,⟨A4,n4,c4,l4,e4,h5.below hb,h6⟩,⟨A7,n7,c7,e7,h8.below hb,h9⟩⟩
theorem cm_len{x:CmP}(h:x.tag.length=32):(cmC x).length=43:=by simp[cmC,ints_len,h]
theorem cm_one{x:CmP}(h:CmOk w x):∀v ∈ cmC x,v.oneCell'=true:=by
 obtain⟨h1,⟨A,n,c,l,e1,h2,h3⟩,⟨A4,n4,c4,l4,e4,h5,h6⟩,⟨A7,n7,c7,e7,h8,h9⟩⟩:=h;intro v hv;simp only[cmC,e1,e4,e7,List.mem_append,List.mem_cons,List.not_mem_nil,or_false,ints,List.mem_map]at hv;rcases hv with(rfl|rfl|rfl|rfl|rfl|rfl|rfl|rfl|rfl)|⟨y,_,rfl⟩|rfl|rfl<;>rfl
theorem info130:(prog.info? 130).map (·.size)=some 43:=by kernel_rfl
theorem cm_hi{x:CmP}(h:x.tag.length=32):(prog.info? 130).map (·.size)=some (cmC x).length:=by rw[cm_len h];exact info130
theorem Cel.cmload{x:CmP}(h:Cel w b 130 (cmC x))(ht:x.tag.length=32):(loadVar 130 ⟨b,0,none⟩).run prog w=.ok (.agg (cmC x).toArray) w:=run_loadVar_mid (P:=prog) _ _ 0 130 (cmC x) _ h.all underlying130 rfl (cm_hi ht)
theorem cm_E{x:CmP}(h:x.tag.length=32):(cmC x)[41]? = some (.int .i64 x.E):=by
 simp[cmC,List.getElem?_append,ints_len,h]
theorem cm_S{x:CmP}(h:x.tag.length=32):(cmC x)[42]? = some (.int .i64 x.S):=by
 simp[cmC,List.getElem?_append,ints_len,h]
theorem rdl_at{c:Nat}(h:RdL w A n c B)(i:Nat)(hi:i<n):∃b o A' n' c' l',A=some ⟨b,o,none⟩/\b<w.heap.size/\w.cell? ⟨b,o+i,none⟩=some (.slice A' n' c')/\Rd w .u8 A' n' c' l'/\n'<=B:=by
 have hcap:=h.cap;obtain⟨b,o,e,hlt,hr⟩:=h.at_ o_;obtain⟨A',n',c',l',h1,h2,h3⟩:=hr i hi;exact⟨b,o,A',n',c',l',e,hlt,h1,h2,h3⟩
theorem body_any(x:CmP)(w:World)(h:CmOk w x):Calls prog 111 #[.agg (cmC x).toArray] w fun r w'=>∃m,m<=12000/\OwnR w m r w'/\Bl w w':=by
 obtain⟨w1,hW⟩:=ex_ (w.alloc (.cells (cmC x).toArray 130));have hb1:=nb_ hW;have HC1:Hid (Cel w1 w.heap.size 130 (cmC x)):=by rw[hW];exact Cel.new _ rfl rfl
 have h1:=h.below hb1;obtain⟨ht,⟨AO,nO,cO,lO,eO,hO,hnO⟩,⟨AV,nV,cV,lV,eV,hV,hnV⟩,⟨AX,nX,cX,eX,hX,hnX⟩⟩:=h1;have HO1:=hd_ hO;have HV1:=hd_ hV;have HX1:=hd_ hX;have EO:=hd_ eO;have EV:=hd_ eV;have EX:=hd_ eX;have HB1:=hd_ hb1;have HW:=hd_ hW;clear hO hV hX eO eV eX hb1 hW h;go_enter func111,ntmps111
 go_wp2_with fail;refine pr_ 0 20 (bt 20 0) fun w1d hw1d=>?_;refine mG ?_;have HC:Hid (Cel w1d w.heap.size 130 (cmC x)):=by rw[<-hw1d,<- HW.out];exact HC1.out.drew
 have HB:Hid (Bl w1 w1d):=by rw[<-hw1d,<- HW.out];exact(Below.refl _ _).drew
 have HO:Hid (OpsR w1d AO nO cO lO):=by rw[<-hw1d,<- HW.out];exact HO1.out.below (Below.refl _ _).drew
 clear hw1d;refine wpAny_of_last (S:=fun w'=>w'.cell? ⟨w.heap.size,0,none⟩=some (.int .i64 x.e)/\w'.cell? ⟨w.heap.size,1,none⟩=some (.int .i64 x.f)/\w'.cell? ⟨w.heap.size,2,none⟩=some (.slice AO nO cO)/\w'.cell? ⟨w.heap.size,3,none⟩=some (.slice AV nV cV)/\Hid (Cel w' w.heap.size 130 (cmC x))/\Hid (Bl w1 w')) (ds:=[16,17,18,19]) _ _ _ _ ?_;have hH:(fun w'=>w'.cell? ⟨w.heap.size,0,none⟩=some (.int .i64 x.e)/\w'.cell? ⟨w.heap.size,1,none⟩=some (.int .i64 x.f)/\w'.cell? ⟨w.heap.size,2,none⟩=some (.slice AO nO cO)/\w'.cell? ⟨w.heap.size,3,none⟩=some (.slice AV nV cV)/\Hid (Cel w' w.heap.size 130 (cmC x))/\Hid (Bl w1 w')) w1d:=⟨(HC.out.cell 0).trans rfl,(HC.out.cell 1).trans rfl,(HC.out.cell 2).trans (by show some x.O=_;rw[EO.out]),(HC.out.cell 3).trans (by show some x.V=_;rw[EV.out]),HC,HB⟩;refine ts_ 0 7 13 (bt 20 127) hH ?_;refine mT6 ?_;refine ts_ 9 2 11 (bt 20 1663) hH ?_;refine mT6 ?_;refine ts_ 12 3 8 (bt 20 30335) hH ?_;refine mT6 ?_;clear hH;refine join_ (σ:=Nat×Option Addr×Nat×Option Addr×Nat×Nat) 4 (bt 20 65535) (fun s=>match s with|(b7,A8,c8,A11,c11,b15)=>[(15,.slice (some ⟨b7,0,none⟩) 3 3),(16,.slice A8 24 c8),(19,.slice A11 (nO*40) c11),(23,.slice (some ⟨b15,0,none⟩) 1 1)]) (fun s w'=>match s with|(b7,A8,c8,A11,c11,b15)=>Hid (Cel w' w.heap.size 130 (cmC x))/\Hid (Bl w1 w')/\Hid (OpsR w' AO nO cO lO)/\Hid (Rd w' .i64 (some ⟨b7,0,none⟩) 3 3 [x.e,x.f,nO])/\Hid (OwnB w' w1.heap.size (.slice A8 24 c8) 24)/\Hid (OwnB w' w1.heap.size (.slice A11 (nO*40) c11) (nO*40))/\Hid (Rd w' .i64 (some ⟨b15,0,none⟩) 1 1 [nV])) ?_ (fun st0=>?_)
 · rintro⟨b7,A8,c8,A11,c11,b15⟩ wc ⟨HC,HB,HO,H7,H8,H11,H15⟩;refine mE ?_;have hH:=trivial;refine tl_ 16 ?_;refine mF ?_;go_wp2_with fail;refine(nums_any _ 1 1 _ _ H15.out dd).mono ?_;rintro _ w6 ⟨⟨A6,c6,rfl,ho6⟩,hb6⟩;have HB6:=tb_ HB hb6;have HC6:=hd_ (HC.out.below hb6 HC.out.lt);obtain⟨l8,hl8⟩:=(H8.out.below hb6).rd;obtain⟨l11,hl11⟩:=(H11.out.below hb6).rd;obtain⟨l6,hl6⟩:=ho6.rd;obtain⟨W7,hW7⟩:=ex_ (w6.alloc (.cells #[.slice A8 24 c8,.slice A11 (nO*40) c11,.slice A6 (1*8) c6] 31))
   have HRR:Hid (RdR W7 (some ⟨w6.heap.size,0,none⟩) 3 3 60000 [(A8,24,c8,l8),(A11,nO*40,c11,l11),(A6,1*8,c6,l6)]):=by
    rw[hW7]
    exact rdr_new w6 [(A8,24,c8,l8),(A11,nO*40,c11,l11),(A6,1*8,c6,l6)] _ 3 rfl rfl (fun r hr=>by
     simp only[List.mem_cons,List.not_mem_nil,or_false]at hr
     rcases hr with rfl|rfl|rfl
     · exact⟨hl8,by show 24<=_;omega⟩
     · exact⟨hl11,by show nO*40<=_;omega⟩
     · exact⟨hl6,by show 1*8<=_;omega⟩)
   (have HB7:Hid (Bl w1 W7):=by rw[hW7];exact HB6.out.alloc HB6.out.size _);(have HC7:Hid (Cel W7 w.heap.size 130 (cmC x)):=by rw[hW7];exact HC6.out.alloc _);have HW7:=hd_ hW7;clear hb6 ho6 hl8 hl11 hl6 hW7 hH;go_wp2_with ((change Calls _ _ _ (w6.alloc (.cells #[.slice A8 24 c8,.slice A11 (nO*40) c11,.slice A6 (1*8) c6] 31)) _);fail);rw[<-HW7.out];refine(concat_any _ 3 3 60000 _ W7 HRR.out dd dd).mono ?_;rintro _ w8 ⟨⟨A9,c9,rfl,ho9⟩,hb8⟩;have HB8:=tb_ HB7 hb8;have HC8:=hd_ (HC7.out.below hb8 HC7.out.lt);have HO9:=hd_ (own_base ho9 HB7.out.size);obtain⟨m9,hm9⟩:=ex_ (lens [(A8,24,c8,l8),(A11,nO*40,c11,l11),(A6,1*8,c6,l6)]);(have hm9b:m9<=200:=by rw[hm9];simp only[lens,List.map_cons,List.map_nil,List.sum_cons,List.sum_nil];omega);rw[<-hm9]at HO9 ⊢;have hV0:w8.cell? ⟨w.heap.size,3,none⟩=some (.slice AV nV cV):=(HC8.out.cell 3).trans (by show some x.V=_;rw[EV.out]);clear hb8 ho9 hm9;go_wp2_with fail;clear hV0;(go_loopw [3,30] (fun vx v wr=>∃(i m:Nat) (A3:Option Addr) (c3:Nat),v=.int .i64 i/\vx=.slice A3 m c3/\i<=nV/\m<=200+i*24/\Hid (OwnB wr w1.heap.size (.slice A3 m c3) m)/\Hid (Bl w1 wr)/\Hid (Cel wr w.heap.size 130 (cmC x))) (fun _ v _=>nV-(intOf v).toNat));(case atStart=>exact⟨0,m9,A9,c9,rfl,rfl,Nat.zero_le _,by omega,HO9,HB8,HC8⟩)
   case round=>
    clear HB HC HO H7 H8 H11 H15 HB6 HC6 HB7 HC7 HB8 HC8 HO9 HRR HW7
    obtain⟨wa,rfl⟩:=ex_ (wr)
    obtain⟨i,m,A3,c3,rfl,rfl,hi,hm,HO,HB,HC⟩:=hrel
    by_cases hlt:i<nV
    · obtain⟨b,o,y0,y1,y2,rfl,_,k0,k1,k2⟩:=(HV1.out.below HB.out).at i hlt;have hcap:=HV1.out.cap;obtain⟨W4,hW4⟩:=ex_ ((wa.alloc (.cells #[.int .i64 y0,.int .i64 y1,.int .i64 y2] 118)).alloc (.cells #[.int .i64 y0,.int .i64 y1,.int .i64 y2] 3));(have hb4:Bl wa W4:=by rw[hW4];exact bal b0_);have HB4:=tb_ HB hb4;have HC4:=hd_ (HC.out.below hb4 HC.out.lt);have HO4:=hd_ (HO.out.below hb4);(have HR4:Hid (Rd W4 .i64 (some ⟨wa.heap.size+1,0,none⟩) 3 3 [y0,y1,y2]):=by rw[hW4];exact rd_lit _ .i64 _ _ _ _ _ rfl rfl s_);have HW4:=hd_ hW4;clear hW4 hb4;go_wp2_with ((change Calls _ _ _ ((wa.alloc (.cells #[.int .i64 y0,.int .i64 y1,.int .i64 y2] 118)).alloc (.cells #[.int .i64 y0,.int .i64 y1,.int .i64 y2] 3)) _);fail);rw[<-HW4.out];refine(nums_any _ 3 3 _ _ HR4.out dd).mono ?_;rintro _ w5 ⟨⟨A5,c5,rfl,ho5⟩,hb5⟩;have HB5:=tb_ HB4 hb5;have HC5:=hd_ (HC4.out.below hb5 HC4.out.lt);obtain⟨l5,hl5⟩:=ho5.rd;have HR5:=hd_ hl5;obtain⟨l3,hl3,hO3⟩:=HO4.out.below hb5;have HO3:=hd_ hO3;have HL3:=hd_ hl3;clear hb5 ho5 hl5 hO3 hl3 k0 k1 k2 HW4 HR4;go_wp2_with (at_builtin;refine append_rg rfl (.tmp 34) (.tmp 44) 31 rfl w1.heap.size 5 1 1 et31 (.slice A3 m c3) m (ints .u8 l3) rfl HO3.out A5 (3*8) c5 (ints .u8 l5) rfl HR5.out.rg ints_one o_ (by unfold maxLen;omega) HB5.out.size ?_;intro A7 c7 w7 hown7 hgrow hb7 hat);have HO7:Hid (OwnB w7 w1.heap.size (.slice A7 (m+3*8) c7) (m+3*8)):=OwnB.app HL3.out HR5.out.len hown7;have HB7:=hd_ (HB5.out.trans hb7);have HC7:=hd_ (HC5.out.below hb7 (by have:=HC1.out.lt;exact this));clear hown7 hgrow hb7 hat;go_wp2_with fail;go_roundw;(case rel=>exact⟨i+1,m+3*8,A7,c7,by go_num,rfl,by omega,by omega,HO7,HB7,HC7⟩);case measure=>simp[intOf];omega
    · (obtain rfl:i=nV:=by omega);have d4:wa.cell? ⟨w.heap.size,4,none⟩=some (.int .i64 x.s):=(HC.out.cell 4).trans rfl;have d5:wa.cell? ⟨w.heap.size,5,none⟩=some (.int .i64 x.p0):=(HC.out.cell 5).trans rfl;have d6:wa.cell? ⟨w.heap.size,6,none⟩=some (.int .i64 x.p1):=(HC.out.cell 6).trans rfl;have d7:wa.cell? ⟨w.heap.size,7,none⟩=some (.int .i64 x.p2):=(HC.out.cell 7).trans rfl;have d8:wa.cell? ⟨w.heap.size,8,none⟩=some (.slice AX nX cX):=(HC.out.cell 8).trans (by show some x.X=_;rw[EX.out]);obtain⟨W4,hW4⟩:=ex_ (wa.alloc (.cells #[.int .i64 x.s,.int .i64 x.p0,.int .i64 x.p1,.int .i64 x.p2,.int .i64 nX] 3));have hb4:=nb_ hW4;have HB4:=tb_ HB hb4;have HC4:=hd_ (HC.out.below hb4 HC.out.lt);have HO4:=hd_ (HO.out.below hb4);(have HR4:Hid (Rd W4 .i64 (some ⟨wa.heap.size,0,none⟩) 5 5 [x.s,x.p0,x.p1,x.p2,nX]):=by rw[hW4];exact rd_lit _ .i64 _ _ _ _ _ rfl rfl rfl);have HW4:=hd_ hW4;clear hW4 hb4;go_wp2_with ((change Calls _ _ _ (wa.alloc (.cells #[.int .i64 x.s,.int .i64 x.p0,.int .i64 x.p1,.int .i64 x.p2,.int .i64 nX] 3)) _);fail);rw[<-HW4.out];refine(nums_any _ 5 5 _ _ HR4.out dd).mono ?_;rintro _ w5 ⟨⟨A5,c5,rfl,ho5⟩,hb5⟩;have HB5:=tb_ HB4 hb5;have HC5:=hd_ (HC4.out.below hb5 HC4.out.lt);obtain⟨l5,hl5⟩:=ho5.rd;have HR5:=hd_ hl5;obtain⟨l3,hl3,hO3⟩:=HO4.out.below hb5;have HO3:=hd_ hO3;have HL3:=hd_ hl3;clear hb5 ho5 hl5 hO3 hl3 HW4 HR4 d4 d5 d6 d7 d8
      go_wp2_with (at_builtin;refine append_rg rfl (.tmp 47) (.tmp 63) 31 rfl w1.heap.size 5 1 1 et31 (.slice A3 m c3) m (ints .u8 l3) rfl HO3.out A5 (5*8) c5 (ints .u8 l5) rfl HR5.out.rg ints_one o_ (by unfold maxLen;omega) HB5.out.size ?_
                   intro A7 c7 w7 hown7 hgrow hb7 hat
                   have HO7:Hid (OwnB w7 w1.heap.size (.slice A7 (m+5*8) c7) (m+5*8)):=OwnB.app HL3.out HR5.out.len hown7
                   have HB7:=hd_ (HB5.out.trans hb7)
                   have HC7:=hd_ (HC5.out.below hb7 (by have:=HC1.out.lt;exact this))
                   have d8:w7.cell? ⟨w.heap.size,8,none⟩=some (.slice AX nX cX):=(HC7.out.cell 8).trans (by show some x.X=_;rw[EX.out])
                   clear hown7 hgrow hb7 hat)
      (have hm7:m+5*8<=500:=by omega);obtain⟨m7,hm7e⟩:=ex_ (m+5*8);rw[<-hm7e]at hm7 HO7 ⊢;clear d8 hm7e;(go_loopw [3,68] (fun vx v wr=>∃(j q:Nat) (A3:Option Addr) (c3:Nat),v=.int .i64 j/\vx=.slice A3 q c3/\j<=nX/\q<=500+j*308/\Hid (OwnB wr w1.heap.size (.slice A3 q c3) q)/\Hid (Bl w1 wr)) (fun _ v _=>nX-(intOf v).toNat));(case atStart=>exact⟨0,m7,A7,c7,rfl,rfl,Nat.zero_le _,by omega,HO7,HB7⟩)
      case round=>
       clear HB HC HO HB5 HC5 HO3 HL3 HR5 HB7 HC7 HO7 HB4 HC4 HO4
       obtain⟨wb,rfl⟩:=ex_ (wr)
       obtain⟨j,q,A3,c3,rfl,rfl,hj,hq,HO,HB⟩:=hrel
       by_cases hlj:j<nX
       · obtain⟨b,o,A',n',c',l',rfl,hbl,k1,hrd,hn'⟩:=rdl_at HX1.out j hlj;have k0:wb.cell? ⟨b,o+j,none⟩=some (.slice A' n' c'):=(HB.out.cell (p:=⟨b,o+j,none⟩) hbl).trans k1;have HD:=hd_ hrd;have hcap:=HX1.out.cap;obtain⟨W4,hW4⟩:=ex_ (wb.alloc (.cells #[.int .i64 n'] 3));have hb4:=nb_ hW4;have HB4:=tb_ HB hb4;have HO4:=hd_ (HO.out.below hb4);(have HR4:Hid (Rd W4 .i64 (some ⟨wb.heap.size,0,none⟩) 1 1 [n']):=by rw[hW4];exact rd_lit _ .i64 _ _ _ _ _ rfl rfl rfl);have HW4:=hd_ hW4;clear hW4 hb4 hrd k1;go_wp2_with ((change Calls _ _ _ (wb.alloc (.cells #[.int .i64 n'] 3)) _);fail);rw[<-HW4.out];refine(nums_any _ 1 1 _ _ HR4.out dd).mono ?_;rintro _ w5 ⟨⟨A5,c5,rfl,ho5⟩,hb5⟩;have HB5:=tb_ HB4 hb5;obtain⟨l5,hl5⟩:=ho5.rd;have HR5:=hd_ hl5;obtain⟨l3,hl3,hO3⟩:=HO4.out.below hb5;have HO3:=hd_ hO3;have HL3:=hd_ hl3;clear hb5 ho5 hl5 hO3 hl3 k0 HW4 HR4
         go_wp2_with (first
          | (at_builtin;refine append_rg rfl (.tmp 72) (.tmp 76) 31 rfl w1.heap.size 5 1 1 et31 (.slice A3 q c3) q (ints .u8 l3) rfl HO3.out A5 (1*8) c5 (ints .u8 l5) rfl HR5.out.rg ints_one o_ (by unfold maxLen;omega) HB5.out.size ?_;intro A7 c7 w7 hown7 hgrow hb7 hat;have HB7:=hd_ (HB5.out.trans hb7);have HD7:=hd_ (HD.out.below HB7.out);have HO7:=hd_ hown7;clear hown7 hgrow hb7 hat)
          | (at_builtin;refine append_rg rfl (.tmp 77) (.tmp 78) 31 rfl w1.heap.size 5 1 1 et31 (.slice A7 (q+1*8) c7) (q+1*8) (ints .u8 l3++ints .u8 l5) rfl HO7.out A' n' c' (ints .u8 l') rfl HD7.out.rg ints_one o_ (by unfold maxLen;omega) HB7.out.size ?_;intro A9 c9 w9 hown9 hgrow9 hb9 hat9;have HB9:=hd_ (HB7.out.trans hb9);have HO9:Hid (OwnB w9 w1.heap.size (.slice A9 (q+1*8+n') c9) (q+1*8+n')):=OwnB.app (l:=l3++l5) (r:=l') (by rw[List.length_append,HL3.out,HR5.out.len]) HD7.out.len (by unfold ints;rw[List.map_append];exact hown9);clear hown9 hgrow9 hb9 hat9))
         go_roundw;(case rel=>exact⟨j+1,q+1*8+n',A9,c9,by go_num,rfl,by omega,by omega,HO9,HB9⟩);case measure=>simp[intOf];omega
       · go_wp2_with fail;go_ret;exact⟨q,by omega,⟨A3,c3,rfl,own_base HO.out (by have:=HB1.out.size;exact this)⟩,HB1.out.trans (HB.out.mono HB1.out.size)⟩
 refine join_ (σ:=Nat×Option Addr×Nat×Option Addr×Nat) 5 (bt 20 32767) (fun s=>match s with|(b7,A8,c8,A11,c11)=>[(15,.slice (some ⟨b7,0,none⟩) 3 3),(16,.slice A8 24 c8),(19,.slice A11 (nO*40) c11)]) (fun s w'=>match s with|(b7,A8,c8,A11,c11)=>Hid (Cel w' w.heap.size 130 (cmC x))/\Hid (Bl w1 w')/\Hid (OpsR w' AO nO cO lO)/\Hid (Rd w' .i64 (some ⟨b7,0,none⟩) 3 3 [x.e,x.f,nO])/\Hid (OwnB w' w1.heap.size (.slice A8 24 c8) 24)/\Hid (OwnB w' w1.heap.size (.slice A11 (nO*40) c11) (nO*40))) ?_ (fun st1=>?_)
 · rintro⟨b7,A8,c8,A11,c11⟩ wc ⟨HC,HB,HO,H7,H8,H11⟩;refine mE ?_;have hH:=trivial;refine one_ (i:=15) (N:=some 23) (bt 20 65535) rfl rfl kk dd (fun K hK=>?_);obtain⟨wn,hwn⟩:=ex_ (wc.alloc (.cells #[.int .i64 nV] 3));refine value_ rr rfl (v:=.slice (some ⟨wc.heap.size,0,none⟩) 1 1) (w1:=wn) (by rw[hwn];go_simp) ?_;have hbn:=nb_ hwn;obtain⟨b15,hb15⟩:=ex_ (wc.heap.size);(have H15:Hid (Rd wn .i64 (some ⟨b15,0,none⟩) 1 1 [nV]):=by rw[hwn,hb15];exact rd_lit _ .i64 _ _ _ _ _ rfl rfl rfl);rw[<-hb15];clear hwn hb15;have HCn:=hd_ (HC.out.below hbn HC.out.lt);have HBn:=tb_ HB hbn;have HOn:=hd_ (HO.out.below hbn);have H7n:=hd_ (H7.out.below hbn);have H8n:=hd_ (H8.out.below hbn);have H11n:=hd_ (H11.out.below hbn);refine hK.out _ _ (⟨(HCn.out.cell 0).trans rfl,(HCn.out.cell 1).trans rfl,(HCn.out.cell 2).trans (by show some x.O=_;rw[EO.out]),(HCn.out.cell 3).trans (by show some x.V=_;rw[EV.out]),HCn,HBn⟩) (fun hH=>?_);refine mN ?_;exact mH (st0 (b7,A8,c8,A11,c11,b15) wn ⟨HCn,HBn,HOn,H7n,H8n,H11n,H15⟩)
 refine join_ (σ:=Nat×Option Addr×Nat×Nat) 5 (bt 20 63487) (fun s=>match s with|(b7,A8,c8,b15)=>[(15,.slice (some ⟨b7,0,none⟩) 3 3),(16,.slice A8 24 c8),(23,.slice (some ⟨b15,0,none⟩) 1 1)]) (fun s w'=>match s with|(b7,A8,c8,b15)=>Hid (Cel w' w.heap.size 130 (cmC x))/\Hid (Bl w1 w')/\Hid (OpsR w' AO nO cO lO)/\Hid (Rd w' .i64 (some ⟨b7,0,none⟩) 3 3 [x.e,x.f,nO])/\Hid (OwnB w' w1.heap.size (.slice A8 24 c8) 24)/\Hid (Rd w' .i64 (some ⟨b15,0,none⟩) 1 1 [nV])) ?_ (fun st2=>?_)
 · rintro⟨b7,A8,c8,b15⟩ wc ⟨HC,HB,HO,H7,H8,H15⟩;refine mE ?_;have hH:=trivial;refine one_ (i:=11) (N:=some 19) (bt 20 65535) rfl rfl kk dd (fun K hK=>?_);refine goes_ func98 kk rfl #[.slice AO nO cO] rr rfl rfl mL ?_;refine(vOps_any _ nO cO lO _ HO.out o_).mono ?_;rintro _ wn ⟨⟨A11,c11,rfl,ho11⟩,hbn⟩;refine⟨_,rfl,?_⟩;have H11:Hid (OwnB wn w1.heap.size (.slice A11 (nO*40) c11) (nO*40)):=own_base ho11 HB.out.size;have HCn:=hd_ (HC.out.below hbn HC.out.lt);have HBn:=tb_ HB hbn;have HOn:=hd_ (HO.out.below hbn);have H7n:=hd_ (H7.out.below hbn);have H8n:=hd_ (H8.out.below hbn);have H15n:=hd_ (H15.out.below hbn);refine hK.out _ _ (⟨(HCn.out.cell 0).trans rfl,(HCn.out.cell 1).trans rfl,(HCn.out.cell 2).trans (by show some x.O=_;rw[EO.out]),(HCn.out.cell 3).trans (by show some x.V=_;rw[EV.out]),HCn,HBn⟩) (fun hH=>?_);refine mN ?_;exact mH (st0 (b7,A8,c8,A11,c11,b15) wn ⟨HCn,HBn,HOn,H7n,H8n,H11,H15n⟩)
 refine join_ (σ:=Nat×Option Addr×Nat) 6 (bt 20 30719) (fun s=>match s with|(b7,A8,c8)=>[(15,.slice (some ⟨b7,0,none⟩) 3 3),(16,.slice A8 24 c8)]) (fun s w'=>match s with|(b7,A8,c8)=>Hid (Cel w' w.heap.size 130 (cmC x))/\Hid (Bl w1 w')/\Hid (OpsR w' AO nO cO lO)/\Hid (Rd w' .i64 (some ⟨b7,0,none⟩) 3 3 [x.e,x.f,nO])/\Hid (OwnB w' w1.heap.size (.slice A8 24 c8) 24)) ?_ (fun st3=>?_)
 · rintro⟨b7,A8,c8⟩ wc ⟨HC,HB,HO,H7,H8⟩;refine mE ?_;have hH:=trivial;refine two_ (i:=11) (j:=15) (Ni:=some 19) (Nj:=some 23) (bt 20 32767) (bt 20 63487) rfl rfl rfl rfl kk dd dd (fun K hK=>?_) (fun K hK=>?_);(· refine goes_ func98 kk rfl #[.slice AO nO cO] rr rfl rfl mL ?_;refine(vOps_any _ nO cO lO _ HO.out o_).mono ?_;rintro _ wn ⟨⟨A11,c11,rfl,ho11⟩,hbn⟩;refine⟨_,rfl,?_⟩;have H11:Hid (OwnB wn w1.heap.size (.slice A11 (nO*40) c11) (nO*40)):=own_base ho11 HB.out.size;have HCn:=hd_ (HC.out.below hbn HC.out.lt);have HBn:=tb_ HB hbn;have HOn:=hd_ (HO.out.below hbn);have H7n:=hd_ (H7.out.below hbn);have H8n:=hd_ (H8.out.below hbn);refine hK.out _ _ (⟨(HCn.out.cell 0).trans rfl,(HCn.out.cell 1).trans rfl,(HCn.out.cell 2).trans (by show some x.O=_;rw[EO.out]),(HCn.out.cell 3).trans (by show some x.V=_;rw[EV.out]),HCn,HBn⟩) (fun hH=>?_);refine mN ?_;exact mH (st1 (b7,A8,c8,A11,c11) wn ⟨HCn,HBn,HOn,H7n,H8n,H11⟩));obtain⟨wn,hwn⟩:=ex_ (wc.alloc (.cells #[.int .i64 nV] 3));refine value_ rr rfl (v:=.slice (some ⟨wc.heap.size,0,none⟩) 1 1) (w1:=wn) (by rw[hwn];go_simp) ?_;have hbn:=nb_ hwn;obtain⟨b15,hb15⟩:=ex_ (wc.heap.size);(have H15:Hid (Rd wn .i64 (some ⟨b15,0,none⟩) 1 1 [nV]):=by rw[hwn,hb15];exact rd_lit _ .i64 _ _ _ _ _ rfl rfl rfl);rw[<-hb15];clear hwn hb15;have HCn:=hd_ (HC.out.below hbn HC.out.lt);have HBn:=tb_ HB hbn;have HOn:=hd_ (HO.out.below hbn);have H7n:=hd_ (H7.out.below hbn);have H8n:=hd_ (H8.out.below hbn);refine hK.out _ _ (⟨(HCn.out.cell 0).trans rfl,(HCn.out.cell 1).trans rfl,(HCn.out.cell 2).trans (by show some x.O=_;rw[EO.out]),(HCn.out.cell 3).trans (by show some x.V=_;rw[EV.out]),HCn,HBn⟩) (fun hH=>?_);refine mN ?_;exact mH (st2 (b7,A8,c8,b15) wn ⟨HCn,HBn,HOn,H7n,H8n,H15⟩)
 refine join_ (σ:=Nat×Nat) 6 (bt 20 63231) (fun s=>match s with|(b7,b15)=>[(15,.slice (some ⟨b7,0,none⟩) 3 3),(23,.slice (some ⟨b15,0,none⟩) 1 1)]) (fun s w'=>match s with|(b7,b15)=>Hid (Cel w' w.heap.size 130 (cmC x))/\Hid (Bl w1 w')/\Hid (OpsR w' AO nO cO lO)/\Hid (Rd w' .i64 (some ⟨b7,0,none⟩) 3 3 [x.e,x.f,nO])/\Hid (Rd w' .i64 (some ⟨b15,0,none⟩) 1 1 [nV])) ?_ (fun st4=>?_)
 · rintro⟨b7,b15⟩ wc ⟨HC,HB,HO,H7,H15⟩;refine mE ?_;have hH:=trivial;refine one_ (i:=8) (N:=some 16) (bt 20 63487) rfl rfl kk dd (fun K hK=>?_);refine goes_ func112 kk rfl #[.slice (some ⟨b7,0,none⟩) 3 3] rr rfl rfl mL ?_;refine(nums_any _ 3 3 _ _ H7.out dd).mono ?_;rintro _ wn ⟨⟨A8,c8,rfl,ho8⟩,hbn⟩;refine⟨_,rfl,?_⟩;have H8:Hid (OwnB wn w1.heap.size (.slice A8 24 c8) 24):=own_base ho8 HB.out.size;have HCn:=hd_ (HC.out.below hbn HC.out.lt);have HBn:=tb_ HB hbn;have HOn:=hd_ (HO.out.below hbn);have H7n:=hd_ (H7.out.below hbn);have H15n:=hd_ (H15.out.below hbn);refine hK.out _ _ (⟨(HCn.out.cell 0).trans rfl,(HCn.out.cell 1).trans rfl,(HCn.out.cell 2).trans (by show some x.O=_;rw[EO.out]),(HCn.out.cell 3).trans (by show some x.V=_;rw[EV.out]),HCn,HBn⟩) (fun hH=>?_);refine mN ?_;exact mH (st2 (b7,A8,c8,b15) wn ⟨HCn,HBn,HOn,H7n,H8,H15n⟩)
 refine join_ (σ:=Nat) 7 (bt 20 30463) (fun s=>match s with|b7=>[(15,.slice (some ⟨b7,0,none⟩) 3 3)]) (fun s w'=>match s with|b7=>Hid (Cel w' w.heap.size 130 (cmC x))/\Hid (Bl w1 w')/\Hid (OpsR w' AO nO cO lO)/\Hid (Rd w' .i64 (some ⟨b7,0,none⟩) 3 3 [x.e,x.f,nO])) ?_ (fun st5=>?_)
 · rintro b7 wc ⟨HC,HB,HO,H7⟩;refine mE ?_;have hH:=trivial;refine two_ (i:=8) (j:=15) (Ni:=some 16) (Nj:=some 23) (bt 20 30719) (bt 20 63231) rfl rfl rfl rfl kk dd dd (fun K hK=>?_) (fun K hK=>?_);(· refine goes_ func112 kk rfl #[.slice (some ⟨b7,0,none⟩) 3 3] rr rfl rfl mL ?_;refine(nums_any _ 3 3 _ _ H7.out dd).mono ?_;rintro _ wn ⟨⟨A8,c8,rfl,ho8⟩,hbn⟩;refine⟨_,rfl,?_⟩;have H8:Hid (OwnB wn w1.heap.size (.slice A8 24 c8) 24):=own_base ho8 HB.out.size;have HCn:=hd_ (HC.out.below hbn HC.out.lt);have HBn:=tb_ HB hbn;have HOn:=hd_ (HO.out.below hbn);have H7n:=hd_ (H7.out.below hbn);refine hK.out _ _ (⟨(HCn.out.cell 0).trans rfl,(HCn.out.cell 1).trans rfl,(HCn.out.cell 2).trans (by show some x.O=_;rw[EO.out]),(HCn.out.cell 3).trans (by show some x.V=_;rw[EV.out]),HCn,HBn⟩) (fun hH=>?_);refine mN ?_;exact mH (st3 (b7,A8,c8) wn ⟨HCn,HBn,HOn,H7n,H8⟩));obtain⟨wn,hwn⟩:=ex_ (wc.alloc (.cells #[.int .i64 nV] 3));refine value_ rr rfl (v:=.slice (some ⟨wc.heap.size,0,none⟩) 1 1) (w1:=wn) (by rw[hwn];go_simp) ?_;have hbn:=nb_ hwn;obtain⟨b15,hb15⟩:=ex_ (wc.heap.size);(have H15:Hid (Rd wn .i64 (some ⟨b15,0,none⟩) 1 1 [nV]):=by rw[hwn,hb15];exact rd_lit _ .i64 _ _ _ _ _ rfl rfl rfl);rw[<-hb15];clear hwn hb15;have HCn:=hd_ (HC.out.below hbn HC.out.lt);have HBn:=tb_ HB hbn;have HOn:=hd_ (HO.out.below hbn);have H7n:=hd_ (H7.out.below hbn);refine hK.out _ _ (⟨(HCn.out.cell 0).trans rfl,(HCn.out.cell 1).trans rfl,(HCn.out.cell 2).trans (by show some x.O=_;rw[EO.out]),(HCn.out.cell 3).trans (by show some x.V=_;rw[EV.out]),HCn,HBn⟩) (fun hH=>?_);refine mN ?_;exact mH (st4 (b7,b15) wn ⟨HCn,HBn,HOn,H7n,H15⟩)
 refine join_ (σ:=Nat) 7 (bt 20 63103) (fun s=>match s with|b15=>[(23,.slice (some ⟨b15,0,none⟩) 1 1)]) (fun s w'=>match s with|b15=>Hid (Cel w' w.heap.size 130 (cmC x))/\Hid (Bl w1 w')/\Hid (OpsR w' AO nO cO lO)/\Hid (Rd w' .i64 (some ⟨b15,0,none⟩) 1 1 [nV])) ?_ (fun st6=>?_)
 · rintro b15 wc ⟨HC,HB,HO,H15⟩;refine mE ?_;have hH:=trivial;refine one_ (i:=7) (N:=some 15) (bt 20 63231) rfl rfl kk dd (fun K hK=>?_);obtain⟨wn,hwn⟩:=ex_ (wc.alloc (.cells #[.int .i64 x.e,.int .i64 x.f,.int .i64 nO] 3));refine value_ rr rfl (v:=.slice (some ⟨wc.heap.size,0,none⟩) 3 3) (w1:=wn) (by rw[hwn];go_simp) ?_;have hbn:=nb_ hwn;obtain⟨b7,hb7⟩:=ex_ (wc.heap.size);(have H7:Hid (Rd wn .i64 (some ⟨b7,0,none⟩) 3 3 [x.e,x.f,nO]):=by rw[hwn,hb7];exact rd_lit _ .i64 _ _ _ _ _ rfl rfl rfl);rw[<-hb7];clear hwn hb7;have HCn:=hd_ (HC.out.below hbn HC.out.lt);have HBn:=tb_ HB hbn;have HOn:=hd_ (HO.out.below hbn);have H15n:=hd_ (H15.out.below hbn);refine hK.out _ _ (⟨(HCn.out.cell 0).trans rfl,(HCn.out.cell 1).trans rfl,(HCn.out.cell 2).trans (by show some x.O=_;rw[EO.out]),(HCn.out.cell 3).trans (by show some x.V=_;rw[EV.out]),HCn,HBn⟩) (fun hH=>?_);refine mN ?_;exact mH (st4 (b7,b15) wn ⟨HCn,HBn,HOn,H7,H15n⟩)
 have hH:=trivial;refine two_ (i:=7) (j:=15) (Ni:=some 15) (Nj:=some 23) (bt 20 30463) (bt 20 63103) rfl rfl rfl rfl kk dd dd (fun K hK=>?_) (fun K hK=>?_)
 · obtain⟨wn,hwn⟩:=ex_ (w1d.alloc (.cells #[.int .i64 x.e,.int .i64 x.f,.int .i64 nO] 3));refine value_ rr rfl (v:=.slice (some ⟨w1d.heap.size,0,none⟩) 3 3) (w1:=wn) (by rw[hwn];go_simp) ?_;have hbn:=nb_ hwn;obtain⟨b7,hb7⟩:=ex_ (w1d.heap.size);(have H7:Hid (Rd wn .i64 (some ⟨b7,0,none⟩) 3 3 [x.e,x.f,nO]):=by rw[hwn,hb7];exact rd_lit _ .i64 _ _ _ _ _ rfl rfl rfl);rw[<-hb7];clear hwn hb7;have HCn:=hd_ (HC.out.below hbn HC.out.lt);have HBn:=tb_ HB hbn;have HOn:=hd_ (HO.out.below hbn);refine hK.out _ _ (⟨(HCn.out.cell 0).trans rfl,(HCn.out.cell 1).trans rfl,(HCn.out.cell 2).trans (by show some x.O=_;rw[EO.out]),(HCn.out.cell 3).trans (by show some x.V=_;rw[EV.out]),HCn,HBn⟩) (fun hH=>?_);refine mN ?_;exact mH (st5 b7 wn ⟨HCn,HBn,HOn,H7⟩)
 obtain⟨wn,hwn⟩:=ex_ (w1d.alloc (.cells #[.int .i64 nV] 3));refine value_ rr rfl (v:=.slice (some ⟨w1d.heap.size,0,none⟩) 1 1) (w1:=wn) (by rw[hwn];go_simp) ?_;have hbn:=nb_ hwn;obtain⟨b15,hb15⟩:=ex_ (w1d.heap.size);have H15:Hid (Rd wn .i64 (some ⟨b15,0,none⟩) 1 1 [nV]):=by rw[hwn,hb15];exact rd_lit _ .i64 _ _ _ _ _ rfl rfl rfl
 rw[<-hb15];clear hwn hb15;have HCn:=hd_ (HC.out.below hbn HC.out.lt);have HBn:=tb_ HB hbn;have HOn:=hd_ (HO.out.below hbn);refine hK.out _ _ (⟨(HCn.out.cell 0).trans rfl,(HCn.out.cell 1).trans rfl,(HCn.out.cell 2).trans (by show some x.O=_;rw[EO.out]),(HCn.out.cell 3).trans (by show some x.V=_;rw[EV.out]),HCn,HBn⟩) (fun hH=>?_);refine mN ?_;exact mH (st6 b15 wn ⟨HCn,HBn,HOn,H15⟩)
end Go.Proofs.YtppjnahcnofokaaGreat.T
