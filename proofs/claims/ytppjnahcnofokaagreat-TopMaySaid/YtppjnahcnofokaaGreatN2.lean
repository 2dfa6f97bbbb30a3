import Derived.Test.YtppjnahcnofokaaGreatN0
import Derived.Test.YtppjnahcnofokaaGreatN1
set_option maxRecDepth 100000
set_option maxHeartbeats 32000000
set_option linter.unusedSimpArgs false
set_option linter.unusedVariables false
namespace Go.Proofs.YtppjnahcnofokaaGreat.T
open Go.RowKit Go.Proofs.YtppjnahcnofokaaGreatW.PrintLast
open Go.Proofs.Tryz
variable{k:IntKind}{a:Act}{b i n B base m fuel D B':Nat}{l ch t0:List Int}{w w' w1 w2:World}{t:TypeId}{P:Program}{cs xs vs l3:List Value}{A A':Option Addr}{o oi:Oper}{e s f st fl:Int}{ops:Array Oper}{rest l0:List Oper}{v:Value}{r:Option Nat}{rs rs2:List (Option Addr×Nat×Nat×List Int)}{E:Prop}{ad ai go:List Bool}{N:Act->Prop}{place:Nat->Option (Nat×Nat)}{bad:Bool}{es es':List (Int×List Int)}{T:List TypeId}
theorem abv_rng(l k:Nat)(hl:l<8)(hk:k<=3):2*(l / 2 ^ k*2 ^ k)+2 ^ k-1<15:=by
 have e2:k=0\/k=1\/k=2\/k=3:=by omega
 rcases e2 with rfl|rfl|rfl|rfl<;>simp<;>omega
def Nodes3(w:World)(b:Nat):Prop:=∃l:List Int,l.length=3/\Blk w b .i64 128 l/\∀x ∈ l,0<=x/\x<15
theorem Nodes3.row(h:Nodes3 w b):Row w b .i64 128 3:=by obtain⟨l,h1,h2,_⟩:=h;exact⟨l,h1,h2⟩
theorem Nodes3.set(h:Nodes3 w b)(i:Nat)(x:Int)(hx:0<=x/\x<15):Nodes3 (w.setCell ⟨b,i,none⟩ (.int .i64 x)) b:=by
 obtain⟨l,h1,h2,h3⟩:=h;refine⟨_,by rw[List.length_set];exact h1,h2.set i x,fun y hy=>?_⟩;rcases List.mem_or_eq_of_mem_set hy with h|h
 · exact h3 y h
 rw[h];exact hx
theorem Nodes3.new(w:World)(b:Nat)(hb:w.heap.size=b):Nodes3 (w.alloc (.cells #[.int .i64 0,.int .i64 0,.int .i64 0] 128)) b:=
 ⟨[0,0,0],rfl,blk_new w .i64 128 [0,0,0] b hb,fun x hx=>by simp at hx;omega⟩
theorem info128:(prog.info? 128).map (·.size)=some 3:=by kernel_rfl
def Is3(r:Ending):Prop:=∃a b c:Int,(0<=a/\a<15)/\(0<=b/\b<15)/\(0<=c/\c<15)/\r=.returned (.agg #[.int .i64 a,.int .i64 b,.int .i64 c])
theorem path_any(n:Int)(w:World):Calls prog 160 #[.int .i64 n] w fun r w'=>Is3 r/\Bl w w':=by
 obtain⟨q,hq⟩:∃q,decide (0<=n/\n<8)=q:=⟨_,rfl⟩;have HQ:=hd_ hq;clear hq;go_enter func160,ntmps160
 go_wp2_with fail;go_loopw [5] (fun v wr=>∃i:Nat,v=.int .i64 i/\i<=3/\Hid (Nodes3 wr (w.heap.size+1))/\Hid (Row wr w.heap.size .i64 128 3)/\Hid (Bl w wr)) (fun v _=>3-(intOf v).toNat)
 case atStart=>exact⟨0,rfl,by omega,Nodes3.new _ _ s_,(Row.new [_,_,_] _ rfl rfl).alloc _,bal b0_⟩
 case round=>
  obtain⟨i,rfl,hi,hN,hR,hb⟩:=hrel;by_cases hlt:i<3
  · go_wp2_with fail;refine(isLeaf_any _ _).mono ?_;rintro _ w2 ⟨rfl,rfl⟩;rw[HQ.out]
    cases q with
    | false=>
     go_wp2_with fail;go_roundw;(case rel=>exact⟨i+1,by go_num,by omega,hN,hR,hb⟩);case measure=>simp[intOf];omega
    | true=>
     (have hn:0<=n/\n<8:=by simpa using HQ.out);obtain⟨m,rfl⟩:=Int.eq_ofNat_of_zero_le hn.1;(have hm:m<8:=by omega);obtain⟨y,hy⟩:=hN.out.row.at i hlt;have fy:=hN.out.row.free i;go_wp2_with fail;refine(above_any m (i+1) _ hm o_).mono ?_;rintro _ w2 ⟨rfl,rfl⟩;have hr:=abv_rng m (i+1) hm o_;generalize 2*(m / 2 ^ (i+1)*2 ^ (i+1))+2 ^ (i+1)-1=z at hr ⊢;go_wp2_with fail;exact⟨⟨i+1,by go_num,by omega,hN.out.set _ _ ⟨by omega,by omega⟩,hR.out.other o_ _ _,hb.out.setCell (Nat.le_succ _) _⟩,by simp[intOf];omega⟩
  obtain⟨l,hl,hB,hP⟩:=hN.out;obtain⟨a,b,c,rfl⟩:∃a b c,l=[a,b,c]:=by
   match l,hl with
   | [a,b,c],_=>exact⟨a,b,c,rfl⟩
  have c0:=hB.cell (i:=0) rfl;have c1:=hB.cell (i:=1) rfl;have c2:=hB.cell (i:=2) rfl;obtain⟨y0,d0⟩:=hR.out.at 0 o_;obtain⟨y1,d1⟩:=hR.out.at 1 o_;obtain⟨y2,d2⟩:=hR.out.at 2 o_;have f0:=hR.out.free 0;have f1:=hR.out.free 1;have f2:=hR.out.free 2;have HP:=hd_ hP;clear hB hl hP;go_wp2_with fail;generalize hW:World.setCell _ _ _=W2;have hBw:Blk W2 w.heap.size .i64 128 [a,b,c]:=by
   obtain⟨l,hl,hB⟩:=hR.out;obtain⟨a',b',c',rfl⟩:∃a b c,l=[a,b,c]:=by
    match l,hl with
    | [a,b,c],_=>exact⟨a,b,c,rfl⟩
   rw[<-hW];exact((hB.set 0 a).set 1 b).set 2 c
  have HB2:Hid (Bl w W2):=by rw[<-hW];exact((hb.out.setCell (Nat.le_refl _) _).setCell (Nat.le_refl _) _).setCell (Nat.le_refl _) _
  clear hW c0 c1 c2 d0 d1 d2 f0 f1 f2;have hload:=hBw.loads underlying128 rfl info128;refine bodyPost_ret (v:=.agg #[.int .i64 a,.int .i64 b,.int .i64 c]) (by simp[results,results160,asAddr,Act.put,hload,ints]) rfl ⟨⟨a,b,c,HP.out a s_,HP.out b s_,HP.out c s_,rfl⟩,HB2.out⟩
theorem xorF(m i:Nat)(hm:m<8)(hi:i<3):∃z:Nat,z<8/\bits BinOp.xor IntKind.i64 (m:Int) (wrap64 (2 ^ i))=(z:Int):=by
 have e1:m=0\/m=1\/m=2\/m=3\/m=4\/m=5\/m=6\/m=7:=by omega
 have e2:i=0\/i=1\/i=2:=by omega
 rcases e2 with rfl|rfl|rfl<;>rcases e1 with rfl|rfl|rfl|rfl|rfl|rfl|rfl|rfl
 all_goals first|exact⟨0,by decide,by decide +kernel⟩|exact⟨1,by decide,by decide +kernel⟩|exact⟨2,by decide,by decide +kernel⟩|exact⟨3,by decide,by decide +kernel⟩|exact⟨4,by decide,by decide +kernel⟩|exact⟨5,by decide,by decide +kernel⟩|exact⟨6,by decide,by decide +kernel⟩|exact⟨7,by decide,by decide +kernel⟩
theorem side_any(n:Int)(w:World):Calls prog 183 #[.int .i64 n] w fun r w'=>Is3 r/\Bl w w':=by
 obtain⟨q,hq⟩:∃q,decide (0<=n/\n<8)=q:=⟨_,rfl⟩;have HQ:=hd_ hq;clear hq;go_enter func183,ntmps183
 go_wp2_with fail;go_loopw [5] (fun v wr=>∃i:Nat,v=.int .i64 i/\i<=3/\Hid (Nodes3 wr (w.heap.size+1))/\Hid (Row wr w.heap.size .i64 128 3)/\Hid (Bl w wr)) (fun v _=>3-(intOf v).toNat)
 case atStart=>exact⟨0,rfl,by omega,Nodes3.new _ _ s_,(Row.new [_,_,_] _ rfl rfl).alloc _,bal b0_⟩
 case round=>
  obtain⟨i,rfl,hi,hN,hR,hb⟩:=hrel;by_cases hlt:i<3
  · go_wp2_with fail;refine(isLeaf_any _ _).mono ?_;rintro _ w2 ⟨rfl,rfl⟩;rw[HQ.out]
    cases q with
    | false=>
     go_wp2_with fail;go_roundw;(case rel=>exact⟨i+1,by go_num,by omega,hN,hR,hb⟩);case measure=>simp[intOf];omega
    | true=>
     (have hn:0<=n/\n<8:=by simpa using HQ.out);obtain⟨m,rfl⟩:=Int.eq_ofNat_of_zero_le hn.1;(have hm:m<8:=by omega);obtain⟨y,hy⟩:=hN.out.row.at i hlt;have fy:=hN.out.row.free i;go_wp2_with fail;obtain⟨m2,hm2,hme⟩:=xorF m i hm hlt;rw[hme];refine(above_any m2 i _ hm2 o_).mono ?_;rintro _ w2 ⟨rfl,rfl⟩;have hr:=abv_rng m2 i hm2 o_;generalize 2*(m2 / 2 ^ i*2 ^ i)+2 ^ i-1=z at hr ⊢;clear hme;go_wp2_with fail;exact⟨⟨i+1,by go_num,by omega,hN.out.set _ _ ⟨by omega,by omega⟩,hR.out.other o_ _ _,hb.out.setCell (Nat.le_succ _) _⟩,by simp[intOf];omega⟩
  obtain⟨l,hl,hB,hP⟩:=hN.out;obtain⟨a,b,c,rfl⟩:∃a b c,l=[a,b,c]:=by
   match l,hl with
   | [a,b,c],_=>exact⟨a,b,c,rfl⟩
  have c0:=hB.cell (i:=0) rfl;have c1:=hB.cell (i:=1) rfl;have c2:=hB.cell (i:=2) rfl;obtain⟨y0,d0⟩:=hR.out.at 0 o_;obtain⟨y1,d1⟩:=hR.out.at 1 o_;obtain⟨y2,d2⟩:=hR.out.at 2 o_;have f0:=hR.out.free 0;have f1:=hR.out.free 1;have f2:=hR.out.free 2;have HP:=hd_ hP;clear hB hl hP;go_wp2_with fail;generalize hW:World.setCell _ _ _=W2;have hBw:Blk W2 w.heap.size .i64 128 [a,b,c]:=by
   obtain⟨l,hl,hB⟩:=hR.out;obtain⟨a',b',c',rfl⟩:∃a b c,l=[a,b,c]:=by
    match l,hl with
    | [a,b,c],_=>exact⟨a,b,c,rfl⟩
   rw[<-hW];exact((hB.set 0 a).set 1 b).set 2 c
  have HB2:Hid (Bl w W2):=by rw[<-hW];exact((hb.out.setCell (Nat.le_refl _) _).setCell (Nat.le_refl _) _).setCell (Nat.le_refl _) _
  clear hW c0 c1 c2 d0 d1 d2 f0 f1 f2;have hload:=hBw.loads underlying128 rfl info128;refine bodyPost_ret (v:=.agg #[.int .i64 a,.int .i64 b,.int .i64 c]) (by simp[results,results183,asAddr,Act.put,hload,ints]) rfl ⟨⟨a,b,c,HP.out a s_,HP.out b s_,HP.out c s_,rfl⟩,HB2.out⟩
theorem under_any(node leaf:Int)(w:World):Calls prog 185 #[.int .i64 node,.int .i64 leaf] w fun r w'=>(∃b,r=.returned (.bool b))/\w=w':=by
 obtain⟨q,hq⟩:∃q,decide (0<=node/\node<15)=q:=⟨_,rfl⟩;obtain⟨p,hp⟩:∃q,decide (0<=leaf/\leaf<8)=q:=⟨_,rfl⟩;have HQ:=hd_ hq;have HP:=hd_ hp;clear hq hp
 cases q with
 | false=>
  go_enter func185,ntmps185
  go_wp2_with fail;refine(isNode_any _ _).mono ?_;rintro _ w2 ⟨rfl,rfl⟩;rw[HQ.out];go_wp2_with fail;go_ret;exact⟨⟨_,rfl⟩,rfl⟩
 | true=>
  cases p with
  | false=>
   (go_enter func185,ntmps185);go_wp2_with fail;refine(isNode_any _ _).mono ?_;rintro _ w2 ⟨rfl,rfl⟩;rw[HQ.out];go_wp2_with fail;refine(isLeaf_any _ _).mono ?_;rintro _ w2 ⟨rfl,rfl⟩;rw[HP.out];go_wp2_with fail;go_ret;exact⟨⟨_,rfl⟩,rfl⟩
  | true=>
   (have hn:0<=leaf/\leaf<8:=by simpa using HP.out);obtain⟨m,rfl⟩:=Int.eq_ofNat_of_zero_le hn.1;(have hm:m<8:=by omega);(go_enter func185,ntmps185);go_wp2_with fail;refine(isNode_any _ _).mono ?_;rintro _ w2 ⟨rfl,rfl⟩;rw[HQ.out];go_wp2_with fail;refine(isLeaf_any _ _).mono ?_;rintro _ w2 ⟨rfl,rfl⟩;rw[HP.out];go_wp2_with fail;(go_loopw [14] (fun v wr=>∃i:Nat,v=.int .i64 i/\i<=4/\w=wr) (fun v _=>4-(intOf v).toNat));(case atStart=>exact⟨0,rfl,by omega,rfl⟩);case round=>
    obtain⟨i,rfl,hi,rfl⟩:=hrel;by_cases hlt:i<4
    · go_wp2_with fail;refine(above_any m i _ hm o_).mono ?_;rintro _ w2 ⟨rfl,rfl⟩;generalize ((2*(m / 2 ^ i*2 ^ i)+2 ^ i-1:Nat):Int)=z
      cases hz:z==node with
      | true=>
       go_wp2_with fail;go_ret;exact⟨⟨_,rfl⟩,rfl⟩
      | false=>
       go_wp2_with fail;go_roundw;(case rel=>exact⟨i+1,by go_num,by omega,trivial⟩);case measure=>simp[intOf];omega
    go_wp2_with fail;go_ret;exact⟨⟨_,rfl⟩,rfl⟩
theorem common_top(a b:Nat)(ha:a<8)(hb:b<8):2*(a / 2 ^ 3*2 ^ 3)+2 ^ 3-1=2*(b / 2 ^ 3*2 ^ 3)+2 ^ 3-1:=by
 have h1:a / 2 ^ 3=0:=by simp;omega
 have h2:b / 2 ^ 3=0:=by simp;omega
 rw[h1,h2]
theorem common_any(x y:Int)(w:World):Calls prog 181 #[.int .i64 x,.int .i64 y] w fun r w'=>(∃z,r=.returned (.int .i64 z))/\w=w':=by
 obtain⟨q,hq⟩:∃q,decide (0<=x/\x<8)=q:=⟨_,rfl⟩;obtain⟨p,hp⟩:∃q,decide (0<=y/\y<8)=q:=⟨_,rfl⟩;have HQ:=hd_ hq;have HP:=hd_ hp;clear hq hp
 cases q with
 | false=>
  go_enter func181,ntmps181
  go_wp2_with fail;refine(isLeaf_any _ _).mono ?_;rintro _ w2 ⟨rfl,rfl⟩;rw[HQ.out];go_wp2_with fail;go_ret;exact⟨⟨_,rfl⟩,rfl⟩
 | true=>
  cases p with
  | false=>
   (go_enter func181,ntmps181);go_wp2_with fail;refine(isLeaf_any _ _).mono ?_;rintro _ w2 ⟨rfl,rfl⟩;rw[HQ.out];go_wp2_with fail;refine(isLeaf_any _ _).mono ?_;rintro _ w2 ⟨rfl,rfl⟩;rw[HP.out];go_wp2_with fail;go_ret;exact⟨⟨_,rfl⟩,rfl⟩
  | true=>
   (have hn:0<=x/\x<8:=by simpa using HQ.out);(have hn2:0<=y/\y<8:=by simpa using HP.out);obtain⟨a,rfl⟩:=Int.eq_ofNat_of_zero_le hn.1;obtain⟨b,rfl⟩:=Int.eq_ofNat_of_zero_le hn2.1;(have ha:a<8:=by omega);(have hb:b<8:=by omega);clear hn hn2;(go_enter func181,ntmps181);go_wp2_with fail;refine(isLeaf_any _ _).mono ?_;rintro _ w2 ⟨rfl,rfl⟩;rw[HQ.out];go_wp2_with fail;refine(isLeaf_any _ _).mono ?_;rintro _ w2 ⟨rfl,rfl⟩;rw[HP.out];go_wp2_with fail;(go_loopw [5] (fun v wr=>∃i:Nat,v=.int .i64 i/\i<=3/\w=wr) (fun v _=>3-(intOf v).toNat));(case atStart=>exact⟨0,rfl,by omega,rfl⟩);case round=>
    obtain⟨i,rfl,hi,rfl⟩:=hrel;(have HT:Hid (i=3->2*(a / 2 ^ i*2 ^ i)+2 ^ i-1=2*(b / 2 ^ i*2 ^ i)+2 ^ i-1):=by show _->_;rintro rfl;exact common_top a b ha hb);go_wp2_with fail;refine(above_any a i _ ha hi).mono ?_;rintro _ w2 ⟨rfl,rfl⟩;go_wp2_with fail;refine(above_any b i _ hb hi).mono ?_;rintro _ w2 ⟨rfl,rfl⟩;generalize 2*(a / 2 ^ i*2 ^ i)+2 ^ i-1=A at HT ⊢;generalize 2*(b / 2 ^ i*2 ^ i)+2 ^ i-1=B at HT ⊢;by_cases hab:A=B;(· subst hab;go_wp2_with fail;refine(above_any a i _ ha hi).mono ?_;rintro _ w2 ⟨rfl,rfl⟩;go_wp2_with fail;go_ret;exact⟨⟨_,rfl⟩,rfl⟩);(have hi3:i<3:=by(rcases Nat.lt_or_ge i 3 with h|h);(· exact h);exact absurd (HT.out o_) hab);(have hne:((A:Int) != (B:Int))=true:=by rw[bne_iff_ne];omega);clear hab HT;go_wp2_with fail;go_roundw;(case rel=>exact⟨i+1,by go_num,by omega,trivial⟩);case measure=>simp[intOf];omega
end Go.Proofs.YtppjnahcnofokaaGreat.T
namespace Go.Proofs.YtppjnahcnofokaaGreat.T
open Go.RowKit Go.Proofs.YtppjnahcnofokaaGreatW.PrintLast
open Go.Proofs.Tryz
variable{k:IntKind}{a:Act}{b i n B base m fuel D B':Nat}{l ch t0:List Int}{w w' w1 w2:World}{t:TypeId}{P:Program}{cs xs vs l3:List Value}{A A':Option Addr}{o oi:Oper}{e s f st fl:Int}{ops:Array Oper}{rest l0:List Oper}{v:Value}{r:Option Nat}{rs rs2:List (Option Addr×Nat×Nat×List Int)}{E:Prop}{ad ai go:List Bool}{N:Act->Prop}{place:Nat->Option (Nat×Nat)}{bad:Bool}{es es':List (Int×List Int)}{T:List TypeId}
def hv(m:Nat):Nat:=[0,1,0,2,0,1,0,4,0,1,0,2,0,1,0].getD m 0
def bitB(m k:Nat):Bool:=bits BinOp.and IntKind.i64 (m:Int) ((2 ^ k:Nat):Int) != 0
theorem half_tab:∀m,m<15->∀k,k<=4->(∀j,j<k->bitB m j=true)->bitB m k=false->(if k=0 then 0 else 2 ^ (k-1))=hv m:=by decide +kernel
theorem half_top:∀m,m<15->bitB m 4=false:=by decide +kernel
theorem half_any(m:Nat)(w:World)(hm:m<15):Calls prog 207 #[.int .i64 m] w fun r w'=>r=.returned (.int .i64 (hv m))/\w=w':=by
 go_enter func207,ntmps207
 go_wp2_with fail;go_loopw [3,4] (fun vn v wr=>∃k:Nat,k<=4/\v=.int .i64 ((2 ^ k:Nat):Int)/\vn=.int .i64 ((if k=0 then 0 else 2 ^ (k-1):Nat):Int)/\Hid (∀j,j<k->bitB m j=true)/\w=wr) (fun _ v _=>17-(intOf v).toNat)
 case atStart=>exact⟨0,by omega,rfl,rfl,fun j h=>by omega,rfl⟩
 case round=>
  obtain⟨k,hk,rfl,rfl,hj,rfl⟩:=hrel;have HH:=hd_ (half_tab m hm k hk hj.out);have HT:=hd_ (half_top m hm);have hk16:2 ^ k<=16:=by(have e:k=0\/k=1\/k=2\/k=3\/k=4:=by omega);rcases e with rfl|rfl|rfl|rfl|rfl<;>decide
  obtain⟨B,hB⟩:=ex_ (2 ^ k);obtain⟨C,hC⟩:=ex_ ((if k=0 then 0 else 2 ^ (k-1)))
  cases hb:bitB m k with
  | false=>
   (have hb':(bits BinOp.and IntKind.i64 (m:Int) (B:Int) != 0)=false:=by rw[hB];exact hb);rw[<-hB,<- hC];have HR:=hd_ (HH.out hb);have HC:=hd_ hC;clear hb hB hC;go_wp2_with fail;go_ret;exact⟨by rw[HC.out,HR.out];rfl,rfl⟩
  | true=>
   (have hk3:k<=3:=by(rcases Nat.lt_or_ge k 4 with h|h);(· omega);(have:k=4:=by omega);subst this;rw[HT.out]at hb;cases hb);(have hb':(bits BinOp.and IntKind.i64 (m:Int) (B:Int) != 0)=true:=by rw[hB];exact hb);rw[<-hB,<- hC];have HBk:=hd_ hB;(have HJ:Hid (∀j,j<k+1->bitB m j=true):=fun j h=>by(rcases Nat.lt_or_ge j k with h'|h');(· exact hj.out j h');(have:j=k:=by omega);rw[this];exact hb);rw[<-hB]at hk16;clear hb hB hC;(have hB1:1<=B:=by rw[HBk.out];exact Nat.one_le_two_pow);go_wp2_with fail;go_roundw;case rel=>
    refine⟨k+1,by omega,?_,?_,HJ,trivial⟩;(· have:=HBk.out;rw[Nat.pow_succ,<- this];go_num);rw[if_neg o_,Nat.add_sub_cancel,<- HBk.out]
   case measure=>simp[intOf];omega
theorem blk40(w:World)(t:List Int):Blk (w.alloc (.cells (ints .i64 t).toArray 40)) w.heap.size .i64 40 t:=blk_new _ _ _ _ _ rfl
theorem key_any(t:List Int)(n:Int)(w:World)(ht:t.length=31):Calls prog 162 #[.agg (ints .i64 t).toArray,.int .i64 n] w fun r w'=>(∃x,r=.returned (.int .i64 x))/\Bl w w':=by
 have HB:=hd_ (blk40 w t);have Hb:Hid (Bl w (w.alloc (.cells (ints .i64 t).toArray 40))):=b0_;obtain⟨q,hq⟩:∃q,decide (0<=n/\n<15)=q:=⟨_,rfl⟩;have HQ:=hd_ hq;clear hq
 cases q with
 | false=>
  go_enter func162,ntmps162
  go_wp2_with fail;refine(isNode_any _ _).mono ?_;rintro _ w2 ⟨rfl,rfl⟩;rw[HQ.out];go_wp2_with fail;go_ret;exact⟨⟨_,rfl⟩,Hb.out⟩
 | true=>
  have hn:0<=n/\n<15:=by simpa using HQ.out
  obtain⟨m,rfl⟩:=Int.eq_ofNat_of_zero_le hn.1;have hm:m<15:=by omega
  obtain⟨w1,hW⟩:=ex_ (w.alloc (.cells (ints .i64 t).toArray 40));rw[<-hW]at HB Hb;have HW:=hd_ hW;clear hW;have hcell:∀i,i<31->∃x,w1.cell? ⟨w.heap.size,i,none⟩=some (.int .i64 x):=fun i hi=>⟨_,HB.out.cell (List.getElem?_eq_getElem o_)⟩;have e:m=0\/m=1\/m=2\/m=3\/m=4\/m=5\/m=6\/m=7\/m=8\/m=9\/m=10\/m=11\/m=12\/m=13\/m=14:=by omega
  rcases e with rfl|rfl|rfl|rfl|rfl|rfl|rfl|rfl|rfl|rfl|rfl|rfl|rfl|rfl|rfl
  · obtain⟨x,hx⟩:=hcell 1 o_;clear hcell;(go_enter func162,ntmps162);go_wp2_with fail;rw[<-HW.out];refine(isNode_any _ _).mono ?_;rintro _ w2 ⟨rfl,rfl⟩;rw[show decide ((0:Int)<=0/\(0:Int)<15)=true from by decide];go_wp2_with fail;go_ret;exact⟨⟨_,rfl⟩,Hb.out⟩
  · obtain⟨x,hx⟩:=hcell 17 o_;clear hcell;(go_enter func162,ntmps162);go_wp2_with fail;rw[<-HW.out];refine(isNode_any _ _).mono ?_;rintro _ w2 ⟨rfl,rfl⟩;rw[show decide ((0:Int)<=1/\(1:Int)<15)=true from by decide];go_wp2_with fail;go_ret;exact⟨⟨_,rfl⟩,Hb.out⟩
  · obtain⟨x,hx⟩:=hcell 3 o_;clear hcell;(go_enter func162,ntmps162);go_wp2_with fail;rw[<-HW.out];refine(isNode_any _ _).mono ?_;rintro _ w2 ⟨rfl,rfl⟩;rw[show decide ((0:Int)<=2/\(2:Int)<15)=true from by decide];go_wp2_with fail;go_ret;exact⟨⟨_,rfl⟩,Hb.out⟩
  · obtain⟨x,hx⟩:=hcell 19 o_;clear hcell;(go_enter func162,ntmps162);go_wp2_with fail;rw[<-HW.out];refine(isNode_any _ _).mono ?_;rintro _ w2 ⟨rfl,rfl⟩;rw[show decide ((0:Int)<=3/\(3:Int)<15)=true from by decide];go_wp2_with fail;go_ret;exact⟨⟨_,rfl⟩,Hb.out⟩
  · obtain⟨x,hx⟩:=hcell 5 o_;clear hcell;(go_enter func162,ntmps162);go_wp2_with fail;rw[<-HW.out];refine(isNode_any _ _).mono ?_;rintro _ w2 ⟨rfl,rfl⟩;rw[show decide ((0:Int)<=4/\(4:Int)<15)=true from by decide];go_wp2_with fail;go_ret;exact⟨⟨_,rfl⟩,Hb.out⟩
  · obtain⟨x,hx⟩:=hcell 21 o_;clear hcell;(go_enter func162,ntmps162);go_wp2_with fail;rw[<-HW.out];refine(isNode_any _ _).mono ?_;rintro _ w2 ⟨rfl,rfl⟩;rw[show decide ((0:Int)<=5/\(5:Int)<15)=true from by decide];go_wp2_with fail;go_ret;exact⟨⟨_,rfl⟩,Hb.out⟩
  · obtain⟨x,hx⟩:=hcell 7 o_;clear hcell;(go_enter func162,ntmps162);go_wp2_with fail;rw[<-HW.out];refine(isNode_any _ _).mono ?_;rintro _ w2 ⟨rfl,rfl⟩;rw[show decide ((0:Int)<=6/\(6:Int)<15)=true from by decide];go_wp2_with fail;go_ret;exact⟨⟨_,rfl⟩,Hb.out⟩
  · obtain⟨x,hx⟩:=hcell 23 o_;clear hcell;(go_enter func162,ntmps162);go_wp2_with fail;rw[<-HW.out];refine(isNode_any _ _).mono ?_;rintro _ w2 ⟨rfl,rfl⟩;rw[show decide ((0:Int)<=7/\(7:Int)<15)=true from by decide];go_wp2_with fail;go_ret;exact⟨⟨_,rfl⟩,Hb.out⟩
  · obtain⟨x,hx⟩:=hcell 9 o_;clear hcell;(go_enter func162,ntmps162);go_wp2_with fail;rw[<-HW.out];refine(isNode_any _ _).mono ?_;rintro _ w2 ⟨rfl,rfl⟩;rw[show decide ((0:Int)<=8/\(8:Int)<15)=true from by decide];go_wp2_with fail;go_ret;exact⟨⟨_,rfl⟩,Hb.out⟩
  · obtain⟨x,hx⟩:=hcell 25 o_;clear hcell;(go_enter func162,ntmps162);go_wp2_with fail;rw[<-HW.out];refine(isNode_any _ _).mono ?_;rintro _ w2 ⟨rfl,rfl⟩;rw[show decide ((0:Int)<=9/\(9:Int)<15)=true from by decide];go_wp2_with fail;go_ret;exact⟨⟨_,rfl⟩,Hb.out⟩
  · obtain⟨x,hx⟩:=hcell 11 o_;clear hcell;(go_enter func162,ntmps162);go_wp2_with fail;rw[<-HW.out];refine(isNode_any _ _).mono ?_;rintro _ w2 ⟨rfl,rfl⟩;rw[show decide ((0:Int)<=10/\(10:Int)<15)=true from by decide];go_wp2_with fail;go_ret;exact⟨⟨_,rfl⟩,Hb.out⟩
  · obtain⟨x,hx⟩:=hcell 27 o_;clear hcell;(go_enter func162,ntmps162);go_wp2_with fail;rw[<-HW.out];refine(isNode_any _ _).mono ?_;rintro _ w2 ⟨rfl,rfl⟩;rw[show decide ((0:Int)<=11/\(11:Int)<15)=true from by decide];go_wp2_with fail;go_ret;exact⟨⟨_,rfl⟩,Hb.out⟩
  · obtain⟨x,hx⟩:=hcell 13 o_;clear hcell;(go_enter func162,ntmps162);go_wp2_with fail;rw[<-HW.out];refine(isNode_any _ _).mono ?_;rintro _ w2 ⟨rfl,rfl⟩;rw[show decide ((0:Int)<=12/\(12:Int)<15)=true from by decide];go_wp2_with fail;go_ret;exact⟨⟨_,rfl⟩,Hb.out⟩
  · obtain⟨x,hx⟩:=hcell 29 o_;clear hcell;(go_enter func162,ntmps162);go_wp2_with fail;rw[<-HW.out];refine(isNode_any _ _).mono ?_;rintro _ w2 ⟨rfl,rfl⟩;rw[show decide ((0:Int)<=13/\(13:Int)<15)=true from by decide];go_wp2_with fail;go_ret;exact⟨⟨_,rfl⟩,Hb.out⟩
  obtain⟨x,hx⟩:=hcell 15 o_;clear hcell;go_enter func162,ntmps162
  go_wp2_with fail;rw[<-HW.out];refine(isNode_any _ _).mono ?_;rintro _ w2 ⟨rfl,rfl⟩;rw[show decide ((0:Int)<=14/\(14:Int)<15)=true from by decide];go_wp2_with fail;go_ret;exact⟨⟨_,rfl⟩,Hb.out⟩
end Go.Proofs.YtppjnahcnofokaaGreat.T
namespace Go.Proofs.YtppjnahcnofokaaGreat.T
open Go.RowKit Go.Proofs.YtppjnahcnofokaaGreatW.PrintLast
open Go.Proofs.Tryz
variable{k:IntKind}{a:Act}{b i n B base m fuel D B':Nat}{l ch t0:List Int}{w w' w1 w2:World}{t:TypeId}{P:Program}{cs xs vs l3:List Value}{A A':Option Addr}{o oi:Oper}{e s f st fl:Int}{ops:Array Oper}{rest l0:List Oper}{v:Value}{r:Option Nat}{rs rs2:List (Option Addr×Nat×Nat×List Int)}{E:Prop}{ad ai go:List Bool}{N:Act->Prop}{place:Nat->Option (Nat×Nat)}{bad:Bool}{es es':List (Int×List Int)}{T:List TypeId}
theorem own_mono{base' e size:Nat}(h:w.ownsRow base e size v n xs)(hb:base'<=base):w.ownsRow base' e size v n xs:=
 ⟨h.1,h.2.imp id (fun⟨g,cap,cur,h1,h2,h3⟩=>⟨g,cap,cur,h1,Nat.le_trans hb h2,h3⟩)⟩
theorem et228:ET 228 3 1 8:=et_of (z:=.int .i64 0) underlying228 kk rfl dd
theorem own_below{e size:Nat}(h:w.ownsRow base e size v n xs)(hb:Bl w w'):w'.ownsRow base e size v n xs:=
 h.kept (row:=none) ⟨hb.os,hb.tape,hb.output,hb.size,fun k hk _=>hb.block k hk⟩ (by cases hv:v.ownBlock<;>simp)
theorem step_append_rg{K:Act->World->Prop}{Q:Exit->Act->World->Prop}(hgd:o.guard=none)(s x:Operand)(t:TypeId)(ho:o.op=.call {callee:=.builtin .append,args:=#[s,x],argTypes:=#[t,t] })(base:Nat)(e:TypeId)(size bytes:Nat)(hE:ET t e size bytes)(v:Value)(n:Nat)(xs:List Value)(hs:a.eval s=v)(hown:w.ownsRow base e size v n xs)(A:Option Addr)(m c:Nat)(news:List Value)(hx:a.eval x=.slice A m c)(hr:Rg w size A m c news)(h1:∀u ∈ news,u.oneCell'=true)(hbytes:(n+m)*bytes<=140737488355328)(h63:n+m<=maxLen)(hbase:base<=w.heap.size)(h:∀A' c' w',w'.ownsRow base e size (.slice A' (n+m) c') (n+m) (xs++news)->w.grownBy w' v.ownBlock->Below base w w'->((Value.slice A' (n+m) c').ownBlock=v.ownBlock\/(Value.slice A' (n+m) c').ownBlock=some w.heap.size)->K (a.put o.dst (.slice A' (n+m) c')) w'): if Region.wanted o (yielded ops a.tmps)=true then Oper.wp prog o a w K Q else E:=by
 have hw:Region.wanted o (yielded ops a.tmps)=true:=by simp[Region.wanted,hgd]
 rw[if_pos hw];obtain⟨v',w',hrun,h2,h3,h4⟩:=run_append_rg base t e o.type size bytes hE v n xs hown A m c news hr h1 hbytes h63 hbase;unfold Oper.wp execOp;simp only[ho,resolve,invoke,builtin,Sem.run_bind,Sem.run_pure,Result.andThen_ok,List.map_toArray,List.map_cons,List.map_nil,hs,hx,hrun];have hv:∃A' c',v'=.slice A' (n+m) c':=by
  rcases h2.2 with⟨rfl,h0⟩|⟨g,cap,_,rfl,_⟩
  · exact⟨none,0,by rw[h0]⟩
  exact⟨_,_,rfl⟩
 obtain⟨A',c',rfl⟩:=hv;exact h A' c' w' h2 h3 ((Below.refl base w).grown h3 hbase (fun k hk=>(hown.lt k hk).1)) h4
def lvl(m:Nat):Nat:=[0,1,0,2,0,1,0,3,0,1,0,2,0,1,0].getD m 0
theorem kids:∀m,m<15->hv m≠0->(m-hv m<15/\lvl (m-hv m)<lvl m)/\(m+hv m<15/\lvl (m+hv m)<lvl m)/\hv m<=m:=by decide +kernel
theorem info40:(prog.info? 40).map (·.size)=some 31:=by kernel_rfl
def ResOk(k:Nat)(w:World)(r:Ending)(w':World):Prop:=
 (∃A n c l,r=.returned (.slice A n c)/\w'.ownsRow w.heap.size 3 1 (.slice A n c) n (ints .i64 l)/\l.length=n/\(∀x ∈ l,0<=x/\x<15)/\n<=2 ^ k)/\Bl w w'
theorem res_step(t:List Int)(ht:t.length=31)(k:Nat)(hk15:k<=3)(ih:∀m w,m<15->lvl m<k->Calls prog 184 #[.agg (ints .i64 t).toArray,.int .i64 m] w (ResOk (k-1) w))(m:Nat)(w:World)(hm:m<15)(hk:lvl m<=k): Calls prog 184 #[.agg (ints .i64 t).toArray,.int .i64 m] w (ResOk k w):=by
 obtain⟨w1,hW⟩:=ex_ (w.alloc (.cells (ints .i64 t).toArray 40));have HB:Hid (Blk w1 w.heap.size .i64 40 t):=by rw[hW];exact blk40 w t
 have Hb:Hid (Bl w w1):=by rw[hW];exact b0_
 have HW:=hd_ hW;have HI:Hid ((prog.info? 40).map (·.size)=some (ints .i64 t).length):=by show _=_;rw[ints_len,ht];exact info40
 have HKids:=hd_ (kids m hm);have HK0:=hd_ (fun w'=>key_any t m w' ht);have HQ:=hd_ (show decide ((0:Int)<=m/\(m:Int)<15)=true by simp;omega);clear hW;go_enter func184,ntmps184
 go_wp2_with fail;rw[<-HW.out];refine(isNode_any _ _).mono ?_;rintro _ w2 ⟨rfl,rfl⟩;rw[HQ.out];go_wp2_with (refine wpList_load_mid rfl 40 (.tmp 2) rr w.heap.size 0 rr (ints .i64 t) _ HB.out.range underlying40 rfl HI.out ?_);refine(HK0.out _).mono ?_;rintro _ w2 ⟨⟨x,rfl⟩,hb2⟩;have HB2:=hd_ (HB.out.below hb2 HB.out.lt);have Hb2:Hid (Bl w w2):=Hb.out.trans (hb2.mono Hb.out.size);have hl2:w.heap.size<w2.heap.size:=HB2.out.lt;clear hb2
 cases hx:(x != 0) with
 | true=>
  go_wp2_with fail;go_ret;refine⟨⟨_,1,1,[(m:Int)],rfl,own_new w2 _ 3 1 _ 1 _ rfl Hb2.out.size o_ rfl,rfl,fun y hy=>by simp at hy;omega,Nat.one_le_two_pow⟩,Hb2.out.alloc Hb2.out.size _⟩
 | false=>
  go_wp2_with fail;refine(half_any m w2 hm).mono ?_;rintro _ w3 ⟨rfl,rfl⟩;by_cases hh:hv m=0
  · (have hh':((hv m:Nat):Int)=0:=by omega);rw[hh'];go_wp2_with fail;go_ret;exact⟨⟨none,0,0,[],rfl,World.ownsRow_nil _ _ _ _,rfl,fun y hy=>by simp at hy,Nat.zero_le _⟩,Hb2.out⟩
  have hne:(((hv m:Nat):Int)==0)=false:=by rw[beq_eq_false_iff_ne];omega
  have HCh0:=HKids.out hh;have HCh:Hid (m-hv m<15/\lvl (m-hv m)<k/\m+hv m<15/\lvl (m+hv m)<k):=⟨HCh0.1.1,by omega,HCh0.2.1.1,by omega⟩;have hsub:IntKind.i64.wrap ((m:Int)-(hv m:Nat))=((m-hv m:Nat):Int):=by rw[IntWalk.i64_in _ o_];omega
  have hadd:IntKind.i64.wrap ((m:Int)+(hv m:Nat))=(m:Int)+(hv m:Nat):=IntWalk.i64_in _ o_;have hk1:1<=k:=by omega
  have hpw:2 ^ (k-1)+2 ^ (k-1)=2 ^ k/\2 ^ (k-1)<=4:=by(have e:k=1\/k=2\/k=3:=by omega);rcases e with rfl|rfl|rfl<;>decide
  clear HCh0 hh;go_wp2_with fail;refine start_ (n:=14) (S:=fun w'=>w'.rangeAt w.heap.size 0 (ints .i64 t)) (ds:=[]) (bt 14 0) kk rfl rfl ?hS7 (fun hH=>?_);rotate_left;generalize hw3d:w2.drew=w3d at hH ⊢;have Hb3:Hid (Bl w w3d):=by rw[<-hw3d];exact Hb2.out.drew
  have hl3:w.heap.size<w3d.heap.size:=by rw[<-hw3d];exact hl2
  clear hw3d;refine take_ (i:=0) (N:=some 20) (v:=.agg (ints .i64 t).toArray) (a':=?_) (bt 14 1) rfl rfl kk (fun _ _ _ h=>h) (yieldsIf_load_mid rr 40 (.tmp 2) rr w.heap.size 0 rr (ints .i64 t) _ (fun _ h=>h) underlying40 rfl HI.out) hH ?_ ?_;rotate_left
  · simp only[Act.put,List.setIfInBounds_toArray,List.set_cons_zero,List.set_cons_succ];rfl
  refine pure_ (i:=1) (N:=some 21) (v:=?_) (a':=?_) (bt 14 3) rfl rfl kk (fun _ _ _ h=>h) (Or.inl ⟨by rfl,?_⟩) ?_ ?_;rotate_left
  · intro w';go_simp;with_reducible rfl
  rotate_left
  · simp only[Act.put,List.setIfInBounds_toArray,List.set_cons_zero,List.set_cons_succ];rfl
  refine pure_ (i:=2) (N:=some 22) (v:=?_) (a':=?_) (bt 14 7) rfl rfl kk (fun _ _ _ h=>h) (Or.inl ⟨by rfl,?_⟩) ?_ ?_;rotate_left
  · intro w';go_simp;with_reducible rfl
  rotate_left
  · simp only[Act.put,List.setIfInBounds_toArray,List.set_cons_zero,List.set_cons_succ];rfl
  refine take_ (i:=6) (N:=some 26) (v:=.agg (ints .i64 t).toArray) (a':=?_) (bt 14 71) rfl rfl kk (fun _ _ _ h=>h) (yieldsIf_load_mid rr 40 (.tmp 2) rr w.heap.size 0 rr (ints .i64 t) _ (fun _ h=>h) underlying40 rfl HI.out) hH ?_ ?_;rotate_left
  · simp only[Act.put,List.setIfInBounds_toArray,List.set_cons_zero,List.set_cons_succ];rfl
  refine pure_ (i:=7) (N:=some 27) (v:=?_) (a':=?_) (bt 14 199) rfl rfl kk (fun _ _ _ h=>h) (Or.inl ⟨by rfl,?_⟩) ?_ ?_;rotate_left
  · intro w';go_simp;with_reducible rfl
  rotate_left
  · simp only[Act.put,List.setIfInBounds_toArray,List.set_cons_zero,List.set_cons_succ];rfl
  refine pure_ (i:=8) (N:=some 28) (v:=?_) (a':=?_) (bt 14 455) rfl rfl kk (fun _ _ _ h=>h) (Or.inl ⟨by rfl,?_⟩) ?_ ?_;rotate_left
  · intro w';go_simp;with_reducible rfl
  rotate_left
  · simp only[Act.put,List.setIfInBounds_toArray,List.set_cons_zero,List.set_cons_succ];rfl
  refine one_ (i:=3) (N:=some 23) (bt 14 463) rfl rfl kk dd (fun K hK=>?_);refine goes_ func207 kk rfl #[.int .i64 m] rr rfl rfl mL ?_;refine(half_any m w3d hm).mono ?_;rintro _ w4 ⟨rfl,rfl⟩;refine⟨_,rfl,?_⟩;refine hK.out _ _ hH (fun hH=>?_);clear hK K;refine mN ?_;refine pure_ (i:=4) (N:=some 24) (v:=?_) (a':=?_) (bt 14 479) rfl rfl kk (fun _ _ _ h=>h) (Or.inl ⟨by rfl,?_⟩) ?_ ?_;rotate_left
  · intro w';go_simp;with_reducible rfl
  rotate_left
  · simp only[Act.put,List.setIfInBounds_toArray,List.set_cons_zero,List.set_cons_succ];rfl
  refine one_ (i:=5) (N:=some 25) (bt 14 511) rfl rfl kk dd (fun K hK=>?_);refine goes_ func184 kk rfl #[.agg (ints .i64 t).toArray,.int .i64 ((m-hv m:Nat):Int)] rr rfl rfl mL ?_;refine(ih _ w3d HCh.out.1 HCh.out.2.1).mono ?_;rintro _ w5 ⟨⟨A5,k5,c5,l5,rfl,ho5,hl5,hp5,hk5⟩,hb5⟩;refine⟨_,rfl,?_⟩;have Hb5:Hid (Bl w w5):=Hb3.out.trans (hb5.mono Hb3.out.size);have hl5':w.heap.size<w5.heap.size:=Nat.lt_of_lt_of_le hl3 hb5.size;have HO5:Hid (w5.ownsRow (w.heap.size+1) 3 1 (.slice A5 k5 c5) k5 (ints .i64 l5)):=own_mono ho5 hl3;refine hK.out _ _ (fun j v hv=>by rw[hb5.cell hl3];exact hH j v hv) (fun hH=>?_);clear hK K hb5 ho5;refine mN ?_;refine one_ (i:=9) (N:=some 29) (bt 14 1023) rfl rfl kk dd (fun K hK=>?_);refine goes_ func207 kk rfl #[.int .i64 m] rr rfl rfl mL ?_;refine(half_any m w5 hm).mono ?_;rintro _ w4 ⟨rfl,rfl⟩;refine⟨_,rfl,?_⟩;refine hK.out _ _ hH (fun hH=>?_);clear hK K;refine mN ?_;refine pure_ (i:=10) (N:=some 30) (v:=?_) (a':=?_) (bt 14 2047) rfl rfl kk (fun _ _ _ h=>h) (Or.inl ⟨by rfl,?_⟩) ?_ ?_;rotate_left
  · intro w';go_simp;with_reducible rfl
  rotate_left
  · simp only[Act.put,List.setIfInBounds_toArray,List.set_cons_zero,List.set_cons_succ];rfl
  refine one_ (i:=11) (N:=some 31) (bt 14 4095) rfl rfl kk dd (fun K hK=>?_);refine goes_ func184 kk rfl #[.agg (ints .i64 t).toArray,.int .i64 ((m+hv m:Nat):Int)] rr rfl rfl mL ?_;refine(ih _ w5 HCh.out.2.2.1 HCh.out.2.2.2).mono ?_;rintro _ w6 ⟨⟨A6,k6,c6,l6,rfl,ho6,hl6,hp6,hk6⟩,hb6⟩;refine⟨_,rfl,?_⟩;have Hb6:Hid (Bl w w6):=Hb5.out.trans (hb6.mono Hb5.out.size);have hl6':w.heap.size<w6.heap.size:=Nat.lt_of_lt_of_le hl5' hb6.size;have HO6:Hid (Rg w6 1 A6 k6 c6 (ints .i64 l6)):=own_rg ho6;have HO56:Hid (w6.ownsRow (w.heap.size+1) 3 1 (.slice A5 k5 c5) k5 (ints .i64 l5)):=own_below HO5.out hb6;refine hK.out _ _ (fun j v hv=>by rw[hb6.cell hl5'];exact hH j v hv) (fun hH=>?_);clear hK K hb6 ho6 HO5;refine mN ?_;refine one_ (i:=12) (N:=some 32) (bt 14 8191) rfl rfl kk dd (fun K hK=>?_);refine step_append_rg rfl (.tmp 25) (.tmp 31) 228 rr (w.heap.size+1) 3 1 8 et228 (.slice A5 k5 c5) k5 (ints .i64 l5) rr HO56.out A6 k6 c6 (ints .i64 l6) rr HO6.out ints_one o_ (by unfold maxLen;omega) hl6' ?_;intro A7 c7 w7 hown7 hgrow hb7 hat;have Hb7:Hid (Bl w w7):=Hb6.out.trans (hb7.mono (Nat.le_succ _));have HO7:=hd_ hown7;refine hK.out _ _ (fun j v hv=>by rw[hb7.cell (Nat.lt_succ_self _)];exact hH j v hv) (fun hH=>?_);clear hK K hgrow hb7 hat hown7;refine norm_ (a':=?_) ?_ ?_;rotate_left
  · show Act.put _ (some 32) _=_;simp only[Act.put,List.setIfInBounds_toArray,List.set_cons_zero,List.set_cons_succ];rfl
  refine pure_ (i:=13) (N:=some 4) (v:=?_) (a':=?_) (bt 14 16383) rfl rfl kk (fun _ _ _ h=>h) (Or.inl ⟨by rfl,?_⟩) ?_ ?_;rotate_left
  · intro w';go_simp;with_reducible rfl
  rotate_left
  · simp only[Act.put,List.setIfInBounds_toArray,List.set_cons_zero,List.set_cons_succ];rfl
  refine done_ kk ?_;go_wp2_with fail;go_ret;refine⟨⟨A7,k5+k6,c7,l5++l6,rfl,?_,by rw[List.length_append,hl5,hl6],fun y hy=>?_,by omega⟩,Hb7.out⟩
  · have:=HO7.out;unfold ints at this ⊢;rw[List.map_append];exact own_mono this (Nat.le_succ _)
  · (rcases List.mem_append.1 hy with h|h);(· exact hp5 y h);exact hp6 y h
  case hS7=>exact HB2.out.range
theorem res_any(t:List Int)(ht:t.length=31):∀(k:Nat),k<=3->∀(m:Nat) (w:World),m<15->lvl m<=k->Calls prog 184 #[.agg (ints .i64 t).toArray,.int .i64 m] w (ResOk k w)
 | 0,h,m,w,hm,hk=>res_step t ht 0 h (fun m w _ h=>by omega) m w hm hk
 | k+1,h,m,w,hm,hk=>res_step t ht (k+1) h (fun m w hm hk=>res_any t ht k o_ m w hm o_) m w hm hk
end Go.Proofs.YtppjnahcnofokaaGreat.T
namespace Go.Proofs.YtppjnahcnofokaaGreat.T
open Go.RowKit Go.Proofs.YtppjnahcnofokaaGreatW.PrintLast
open Go.Proofs.Tryz
variable{k:IntKind}{a:Act}{b i n B base m fuel D B':Nat}{l ch t0:List Int}{w w' w1 w2:World}{t:TypeId}{P:Program}{cs xs vs l3:List Value}{A A':Option Addr}{o oi:Oper}{e s f st fl:Int}{ops:Array Oper}{rest l0:List Oper}{v:Value}{r:Option Nat}{rs rs2:List (Option Addr×Nat×Nat×List Int)}{E:Prop}{ad ai go:List Bool}{N:Act->Prop}{place:Nat->Option (Nat×Nat)}{bad:Bool}{es es':List (Int×List Int)}{T:List TypeId}
section
variable {P:Program}
theorem run_index_plain(w:World)(t e:TypeId)(n:Nat)(cs:Array Value)(i:Nat)(v:Value)(inf:TypeInfo)(hu:P.underlying t=some (.array n e))(hinf:P.info? e=some inf)(hs:inf.size=1)(hp:P.plainKey e=true)(hi:i<n)(h:cs[i]? = some v): (Instr.index t (.agg cs) (.int .i64 (i:Int))).run P w=.ok v w:=by
 have hn:(0:Int)<=i/\(i:Int)<n:=by omega
 have hpt:=run_part_plain (P:=P) (w:=w) hp h;simp[Instr.index,asIntOf,run_underlying hu,hn,sizeOf,typeInfo,hinf,hs,hi,hpt]
theorem run_index_agg(w:World)(t e:TypeId)(n:Nat)(cs:Array Value)(i:Nat)(inf:TypeInfo)(d:TypeDesc)(hu:P.underlying t=some (.array n e))(hinf:P.info? e=some inf)(hd:P.underlying e=some d)(hr:d.isRow=true)(hi:i<n): (Instr.index t (.agg cs) (.int .i64 (i:Int))).run P w=.ok (.agg (cs.extract (i*inf.size) (i*inf.size+inf.size))) w:=by
 have hn:(0:Int)<=i/\(i:Int)<n:=by omega
 cases d<;>simp[TypeDesc.isRow]at hr<;>simp[Instr.index,asIntOf,run_underlying hu,hn,sizeOf,typeInfo,hinf,hi,part,isAgg,run_underlying hd]
end
theorem info3:(prog.info? 3).map (fun i=>(i.zero,i.size,i.bytes))=some (some (.int .i64 0),1,8):=by kernel_rfl
theorem idx128(x y z v:Value)(i:Nat)(h:#[x,y,z][i]? = some v)(w:World):(Instr.index 128 (.agg #[x,y,z]) (.int .i64 (i:Int))).run prog w=.ok v w:=by
 obtain⟨inf,hi,_,hs,_⟩:=info_parts info3;have hlt:i<3:=(Array.getElem?_eq_some_iff.1 h).1;exact run_index_plain w 128 3 3 _ i v inf underlying128 hi hs kk hlt h
theorem wpList_index{Q:Exit->Act->World->Prop}(hgd:o.guard=none)(t:TypeId)(x y:Operand)(ho:o.op=.index t x y)(xv yv v:Value)(hx:a.eval x=xv)(hy:a.eval y=yv)(hrun:(Instr.index t xv yv).run prog w=.ok v w)(h:wpList prog ops Q rest (a.put o.dst v) w):wpList prog ops Q (o :: rest) a w:=by
 refine wpList_plain hgd fun K hK=>?_;unfold Oper.wp execOp;simp only[ho,hx,hy,Sem.run_bind,hrun,Result.andThen_ok];exact hK _ _ h
def z31:List Int:=List.replicate 31 0
theorem hi40(h:l.length=31):Hid ((prog.info? 40).map (·.size)=some (ints .i64 l).length):=by show _=_;rw[ints_len,h];exact info40
theorem hi40a(h:l.length=31):Hid ((prog.info? 40).map (·.size)=some (ints .i64 l).toArray.size):=by show _=_;rw[List.size_toArray,ints_len,h];exact info40
end Go.Proofs.YtppjnahcnofokaaGreat.T
namespace Go.Proofs.YtppjnahcnofokaaGreat.T
open Go.RowKit Go.Proofs.YtppjnahcnofokaaGreatW.PrintLast
open Go.Proofs.Tryz
variable{k:IntKind}{a:Act}{b i n B base m fuel D B':Nat}{l ch t0:List Int}{w w' w1 w2:World}{t:TypeId}{P:Program}{cs xs vs l3:List Value}{A A':Option Addr}{o oi:Oper}{e s f st fl:Int}{ops:Array Oper}{rest l0:List Oper}{v:Value}{r:Option Nat}{rs rs2:List (Option Addr×Nat×Nat×List Int)}{E:Prop}{ad ai go:List Bool}{N:Act->Prop}{place:Nat->Option (Nat×Nat)}{bad:Bool}{es es':List (Int×List Int)}{T:List TypeId}
theorem range_take{o:Nat}(h:w.rangeAt b o (ints k l))(m:Nat):w.rangeAt b o (ints k (l.take m)):=fun j v hv=>by
 refine h j v ?_
 rw[ints,List.map_take,List.getElem?_take]at hv
 split at hv
 · exact hv
 · cases hv
theorem range_drop{o:Nat}(h:w.rangeAt b o (ints k l))(m:Nat):w.rangeAt b (o+m) (ints k (l.drop m)):=fun j v hv=>by
 rw[show o+m+j=o+(m+j) by omega]
 refine h (m+j) v ?_
 rw[ints,List.map_drop,List.getElem?_drop]at hv
 exact hv
theorem info37:(prog.info? 37).map (·.size)=some 16:=by kernel_rfl
theorem info38:(prog.info? 38).map (·.size)=some 15:=by kernel_rfl
theorem info36:(prog.info? 36).map (fun i=>(i.zero,i.size,i.bytes))=some (some (.agg #[.int .i64 0,.int .i64 0]),2,16):=by kernel_rfl
theorem idx37(l:List Int)(hl:l.length=16)(i:Nat)(hi:i<8)(w:World):∃x y:Int,l[i*2]? = some x/\l[i*2+1]? = some y/\(Instr.index 37 (.agg (ints .i64 l).toArray) (.int .i64 (i:Int))).run prog w=.ok (.agg #[.int .i64 x,.int .i64 y]) w:=by
 obtain⟨inf,hinf,_,hs,_⟩:=info_parts info36;have h0:l[i*2]? = some l[i*2]:=List.getElem?_eq_getElem o_;have h1:l[i*2+1]? = some l[i*2+1]:=List.getElem?_eq_getElem o_;refine⟨_,_,h0,h1,?_⟩;rw[run_index_agg w 37 36 8 _ i inf _ underlying37 hinf underlying36 rfl hi,hs];have e:(ints .i64 l).toArray.extract (i*2) (i*2+2) = #[.int .i64 l[i*2],.int .i64 l[i*2+1]]:=by
  apply Array.ext
  · simp[ints,hl];omega
  intro j h1 h2;have:j=0\/j=1:=by simp at h2;omega
  rcases this with rfl|rfl<;>simp[ints]
 rw[e]
theorem idx38(l:List Int)(hl:l.length=15)(i:Nat)(hi:i<15)(w:World):∃x:Int,l[i]? = some x/\(Instr.index 38 (.agg (ints .i64 l).toArray) (.int .i64 (i:Int))).run prog w=.ok (.int .i64 x) w:=by
 obtain⟨inf,hinf,_,hs,_⟩:=info_parts info3;refine⟨_,List.getElem?_eq_getElem o_,?_⟩;exact run_index_plain w 38 3 15 _ i _ inf underlying38 hinf hs kk hi (by simpa using ints_get (List.getElem?_eq_getElem o_))
theorem tIs_any(t:List Int)(w:World)(ht:t.length=31):Calls prog 189 #[.agg (ints .i64 t).toArray] w fun r w'=>(∃b,r=.returned (.bool b))/\Bl w w':=by
 obtain⟨w1,hW⟩:=ex_ (w.alloc (.cells (ints .i64 t).toArray 40));have HB:Hid (Blk w1 w.heap.size .i64 40 t):=by rw[hW];exact blk40 w t
 have Hb:Hid (Bl w w1):=by rw[hW];exact b0_
 obtain⟨l,hl⟩:=ex_ (t.take 16);obtain⟨m,hm⟩:=ex_ (t.drop 16);have HL:Hid (l.length=16):=by show _=_;rw[hl,List.length_take];omega
 have HM:Hid (m.length=15):=by show _=_;rw[hm,List.length_drop];omega
 have HRl:Hid (∀w',Bl w1 w'->w'.rangeAt w.heap.size 0 (ints .i64 l)):=fun w' h=>by rw[hl];exact range_take (HB.out.below h HB.out.lt).range 16
 have HRm:Hid (∀w',Bl w1 w'->w'.rangeAt w.heap.size 16 (ints .i64 m)):=fun w' h=>by rw[hm];exact range_drop (HB.out.below h HB.out.lt).range 16
 have HIl:Hid ((prog.info? 37).map (·.size)=some (ints .i64 l).length):=by show _=_;rw[ints_len,HL.out];exact info37
 have HIm:Hid ((prog.info? 38).map (·.size)=some (ints .i64 m).length):=by show _=_;rw[ints_len,HM.out];exact info38
 have HW:=hd_ hW;clear hW hl hm;go_enter func189,ntmps189
 go_wp2_with ((change wpList _ _ _ _ _ (w.alloc (.cells (ints .i64 t).toArray 40)));rw[<-HW.out];refine wpList_load_mid rfl 37 (.tmp 7) rr w.heap.size 0 rr (ints .i64 l) _ (HRl.out _ (Below.refl _ _)) underlying37 rfl HIl.out ?_);go_loopw [9] (fun v wr=>∃i:Nat,v=.int .i64 i/\i<=8/\Hid (Bl w1 wr)) (fun v _=>8-(intOf v).toNat)
 case atStart=>exact⟨0,rfl,by omega,Below.refl _ _⟩
 case round=>
  obtain⟨i,rfl,hi,hb⟩:=hrel;by_cases hlt:i<8
  · obtain⟨x,y,_,_,hix⟩:=idx37 l HL.out i hlt wr;have HIX:=hd_ hix;clear hix;go_wp2_with (refine wpList_index rfl 37 (.tmp 8) (.tmp 9) rfl _ _ _ rr rr HIX.out ?_);have hb4:=(hb.out.alloc hb.out.size (.cells #[.int .i64 x,.int .i64 y] 36));have Hb5:=hd_ hb4;have Hb4:=tb_ Hb hb4;clear hb4 HIX hb;refine(isKey_any _ _).mono ?_;rintro _ w4 ⟨rfl,rfl⟩
    cases keyB x with
    | false=>
     go_wp2_with fail;go_ret;exact⟨⟨_,rfl⟩,Hb4.out⟩
    | true=>
     go_wp2_with fail;refine(isKey_any _ _).mono ?_;rintro _ w4 ⟨rfl,rfl⟩
     cases keyB y with
     | false=>
      go_wp2_with fail;go_ret;exact⟨⟨_,rfl⟩,Hb4.out⟩
     | true=>
      (cases hx:(x==0)<;>cases hy:(y==0));case' false.true=>
       go_wp2_with fail;go_ret;exact⟨⟨_,rfl⟩,Hb4.out⟩
      case' true.false=>
       go_wp2_with fail;go_ret;exact⟨⟨_,rfl⟩,Hb4.out⟩
      all_goals
       go_wp2_with fail
       go_roundw
       case rel=>exact⟨i+1,by go_num,by omega,Hb5⟩
       case measure=>simp[intOf];omega
  have Hbr:Hid (Bl w wr):=Hb.out.trans (hb.out.mono Hb.out.size);go_wp2_with (refine wpList_load_mid rfl 38 (.tmp 32) rr w.heap.size 16 rr (ints .i64 m) _ (HRm.out _ hb.out) underlying38 rfl HIm.out ?_);go_loopw [34] (fun v w'=>∃j:Nat,v=.int .i64 j/\j<=15/\wr=w') (fun v _=>15-(intOf v).toNat)
  case atStart=>exact⟨0,rfl,by omega,rfl⟩
  case round=>
   obtain⟨j,rfl,hj,rfl⟩:=hrel;by_cases hlj:j<15
   · obtain⟨x,_,hix⟩:=idx38 m HM.out j hlj wr;have HIX:=hd_ hix;clear hix;obtain⟨q,hq⟩:∃q,((j:Int).tmod 2==0)=q:=⟨_,rfl⟩;go_wp2_with (refine wpList_index rfl 38 (.tmp 33) (.tmp 34) rfl _ _ _ rr rr HIX.out ?_);refine(isKey_any _ _).mono ?_;rintro _ w4 ⟨rfl,rfl⟩
     cases keyB x with
     | false=>
      go_wp2_with fail;go_ret;exact⟨⟨_,rfl⟩,Hbr.out⟩
     | true=>
      have htm:(j:Int).tmod 2=(j:Int) % 2:=Int.tmod_eq_emod_of_nonneg o_;rw[htm]at hq;(have hq2:((j:Int).tmod 2==0)=q:=by rw[htm];exact hq);clear htm
      cases q with
      | false=>
       go_wp2_with fail;go_roundw;(case rel=>exact⟨j+1,by go_num,by omega,trivial⟩);case measure=>simp[intOf];omega
      | true=>
       cases hx:(x != 0) with
       | false=>
        go_wp2_with fail;go_roundw;(case rel=>exact⟨j+1,by go_num,by omega,trivial⟩);case measure=>simp[intOf];omega
       | true=>
        go_wp2_with fail;go_ret;exact⟨⟨_,rfl⟩,Hbr.out⟩
   go_wp2_with fail;go_ret;exact⟨⟨_,rfl⟩,Hbr.out⟩
end Go.Proofs.YtppjnahcnofokaaGreat.T
namespace Go.Proofs.YtppjnahcnofokaaGreat.T
open Go.RowKit Go.Proofs.YtppjnahcnofokaaGreatW.PrintLast
open Go.Proofs.Tryz
variable{k:IntKind}{a:Act}{b i n B base m fuel D B':Nat}{l ch t0:List Int}{w w' w1 w2:World}{t:TypeId}{P:Program}{cs xs vs l3:List Value}{A A':Option Addr}{o oi:Oper}{e s f st fl:Int}{ops:Array Oper}{rest l0:List Oper}{v:Value}{r:Option Nat}{rs rs2:List (Option Addr×Nat×Nat×List Int)}{E:Prop}{ad ai go:List Bool}{N:Act->Prop}{place:Nat->Option (Nat×Nat)}{bad:Bool}{es es':List (Int×List Int)}{T:List TypeId}
theorem step_val{Q:Exit->Act->World->Prop}{K:Act->World->Prop}(hw:Region.wanted oi (yielded ops a.tmps)=true)(hrun:(execOp a.eval oi).run P w=.ok (.value v) w1)(h:K (a.put oi.dst v) w1):if Region.wanted oi (yielded ops a.tmps)=true then Oper.wp P oi a w K Q else E:=by
 rw[if_pos hw];unfold Oper.wp;rw[hrun];exact h
structure RowsO (w:World) (base:Nat) (v:Value) (n:Nat) (rs:List (Option Addr×Nat×Nat×List Int)):Prop where
 len:rs.length=n
 own:w.ownsRow base 31 1 v n (rs.map sv)
 each:∀r ∈ rs,Rd w .u8 r.1 r.2.1 r.2.2.1 r.2.2.2/\r.2.1<=60000
 far:∀r ∈ rs,∀k,(sv r).ownBlock=some k->k<w.heap.size/\v.ownBlock≠some k
theorem RowsO.nil(w:World)(base:Nat):RowsO w base (.slice none 0 0) 0 []:=⟨rfl,World.ownsRow_nil _ _ _ _,(fun r h=>by cases h),(fun r h=>by cases h)⟩
theorem RowsO.drew(h:RowsO w base v n rs):RowsO w.drew base v n rs:=⟨h.len,h.own.drew,fun r hr=>⟨(h.each r hr).1.drew,(h.each r hr).2⟩,h.far⟩
theorem RowsO.below(h:RowsO w base v n rs)(hb:Bl w w'):RowsO w' base v n rs:=
 ⟨h.len,own_below h.own hb,fun r hr=>⟨(h.each r hr).1.below hb,(h.each r hr).2⟩,fun r hr k hk=>⟨Nat.lt_of_lt_of_le (h.far r hr k hk).1 hb.size,(h.far r hr k hk).2⟩⟩
theorem RowsO.app{c c':Nat}(h:RowsO w base v n rs)(h2:RdR w A m c 60000 rs2)(hown:w'.ownsRow base 31 1 (.slice A' (n+m) c') (n+m) (rs.map sv++rs2.map sv))(hg:w.grownBy w' v.ownBlock)(hat:(Value.slice A' (n+m) c').ownBlock=v.ownBlock\/(Value.slice A' (n+m) c').ownBlock=some w.heap.size)(hfar:∀r ∈ rs2,∀k,(sv r).ownBlock=some k->k<w.heap.size/\v.ownBlock≠some k):RowsO w' base (.slice A' (n+m) c') (n+m) (rs++rs2):=by
 have hall:∀r ∈ rs++rs2,(Rd w .u8 r.1 r.2.1 r.2.2.1 r.2.2.2/\r.2.1<=60000)/\∀k,(sv r).ownBlock=some k->k<w.heap.size/\v.ownBlock≠some k:=fun r hr=>by
  rcases List.mem_append.1 hr with h'|h'
  · exact⟨h.each r h',h.far r h'⟩
  exact⟨h2.each r h',hfar r h'⟩
 refine⟨by rw[List.length_append,h.len,h2.len],by rw[List.map_append];exact hown,fun r hr=>⟨(hall r hr).1.1.grown hg (fun b o e=>?_),(hall r hr).1.2⟩,fun r hr k hk=>?_⟩
 · have:=((hall r hr).2 b (by rw[sv,e];rfl)).2;exact fun e'=>this e'.symm
 obtain⟨h1,h2⟩:=(hall r hr).2 k hk;refine⟨Nat.lt_of_lt_of_le h1 hg.size,?_⟩;rcases hat with e|e
 · rw[e];exact h2
 rw[e];intro e';injection e' with e'
 omega
def Cel(w:World)(b:Nat)(t:TypeId)(vs:List Value):Prop:=w.heap[b]? = some (.cells vs.toArray t (0,0))
theorem Cel.lt(h:Cel w b t vs):b<w.heap.size:=(Array.getElem?_eq_some_iff.1 h).1
theorem Cel.cell(h:Cel w b t vs)(i:Nat):w.cell? ⟨b,i,none⟩=vs[i]?:=by
 rw[cell_of_row _ _ _ _ _ _ h];simp
theorem Cel.free(h:Cel w b t vs)(i:Nat):w.frozen? ⟨b,i,none⟩=false:=by
 unfold Cel at h;simp[World.frozen?,h]
theorem Cel.range{l1 l2:List Value}(h:Cel w b t (l1++l2++l3)):w.rangeAt b l1.length l2:=fun j v hv=>by
 have hj:j<l2.length:=(List.getElem?_eq_some_iff.1 hv).1
 rw[h.cell,List.append_assoc,List.getElem?_append_right o_,show l1.length+j-l1.length=j by omega,List.getElem?_append_left hj,hv]
theorem Cel.all(h:Cel w b t vs):w.rangeAt b 0 vs:=fun j v hv=>by
 rw[h.cell,Nat.zero_add,hv]
theorem Cel.below(h:Cel w b t vs)(hb:Below B w w')(hB:b<B):Cel w' b t vs:=(hb.block b hB).trans h
theorem Cel.grown{row:Option Nat}(h:Cel w b t vs)(hg:w.grownBy w' row)(hne:some b≠row):Cel w' b t vs:=(hg.block b h.lt hne).trans h
theorem Cel.alloc(h:Cel w b t vs)(o:Obj):Cel (w.alloc o) b t vs:=h.below b0_ h.lt
theorem Cel.new{cs:Array Value}(vs:List Value)(hb:w.heap.size=b)(hcs:cs=vs.toArray):Cel (w.alloc (.cells cs t)) b t vs:=by
 subst hb hcs;exact heap_alloc_new _ _
theorem Cel.drew(h:Cel w b t vs):Cel w.drew b t vs:=h
theorem Cel.set(h:Cel w b t vs)(i:Nat)(v:Value):Cel (w.setCell ⟨b,i,none⟩ v) b t (vs.set i v):=by
 have hlt:=h.lt;unfold Cel at h ⊢;have h':w.heap[b]=.cells vs.toArray t (0,0):=by simpa[Array.getElem?_eq_getElem hlt] using h
 show(w.heap.modify b _)[b]? = _;rw[Array.getElem?_eq_getElem (by simpa using hlt),Array.getElem_modify_self,h'];simp
theorem Cel.there(h:Cel w b t vs){o:Nat}(hn:o+n<=vs.length):w.there b o n:=fun j hj=>by
 rw[h.cell,List.getElem?_eq_getElem o_]
 exact⟨rfl,h.free _⟩
theorem Blk.cel(h:Blk w b k t l):Cel w b t (ints k l):=h
theorem Cel.blk(h:Cel w b t (ints k l)):Blk w b k t l:=h
theorem setCells_cel:∀(l2 l1 l0:List Value) {w:World},Cel w b t (l1++l0++l3)->l0.length=l2.length->Cel (w.setCells b l1.length l2) b t (l1++l2++l3)/\w.grownBy (w.setCells b l1.length l2) (some b)
 | [],l1,l0,w,h,hl=>by
  have:l0=[]:=List.length_eq_zero_iff.1 (by simpa using hl);subst this;exact⟨h,World.grownBy.refl w _⟩
 | v :: r,l1,[],w,h,hl=>by simp at hl
 | v :: r,l1,u :: l0,w,h,hl=>by
  have hs:=h.set l1.length v;have e:(l1++u :: l0++l3).set l1.length v=(l1 ++ [v])++l0++l3:=by simp
  rw[e]at hs;have ih:=setCells_cel r (l1 ++ [v]) l0 hs (by simpa using hl);rw[List.length_append]at ih;refine⟨?_,?_⟩
  · show Cel ((w.setCell ⟨b,l1.length,none⟩ v).setCells b (l1.length+1) r) b t _;simpa using ih.1
  exact grownBy_trans (grownBy_setCell w b l1.length v) ih.2
where
 grownBy_trans {a w w':World} {row:Option Nat} (h:a.grownBy w row) (k:w.grownBy w' row):a.grownBy w' row:=
  ⟨k.os.trans h.os,k.tape.trans h.tape,k.output.trans h.output,Nat.le_trans h.size k.size,fun j hj hne=>(k.block j (Nat.lt_of_lt_of_le hj h.size) hne).trans (h.block j hj hne)⟩
 grownBy_setCell (w:World) (b i:Nat) (v:Value):w.grownBy (w.setCell ⟨b,i,none⟩ v) (some b):=
  ⟨rfl,rfl,rfl,by simp,fun k _ hne=>Below.heap_setCell _ _ _ _ (fun e=>hne (by rw[e]))⟩
theorem store_cel{Q:Exit->Act->World->Prop}(hgd:o.guard=none)(t:TypeId)(x y:Operand)(ho:o.op=.store t x y)(b off:Nat)(u:TypeId)(l1 l0 l3 vs:List Value)(hx:a.eval x=.pointer (some ⟨b,off,none⟩))(hy:a.eval y=.agg vs.toArray)(hR:Cel w b u (l1++l0++l3))(h1:l1.length=off)(hl:l0.length=vs.length)(hi:(prog.info? t).map (·.size)=some vs.length)(hall:vs.toArray.all (·.oneCell')=true)(h:∀W2,Cel W2 b u (l1++vs++l3)->w.grownBy W2 (some b)->wpList prog ops Q rest (a.put o.dst undef) W2):wpList prog ops Q (o :: rest) a w:=by
 subst h1;obtain⟨h1,h2⟩:=setCells_cel vs l1 l0 hR hl;refine wpList_store_mid hgd t x y ho b l1.length vs.toArray hx hy (hR.there (by simp[hl])) (by rw[hi];simp) hall ?_;exact h _ h1 h2
theorem store_blk{Q:Exit->Act->World->Prop}(hgd:o.guard=none)(t:TypeId)(x y:Operand)(ho:o.op=.store t x y)(b:Nat)(k:IntKind)(l:List Int)(hx:a.eval x=.pointer (some ⟨b,0,none⟩))(hy:a.eval y=.agg (ints k l).toArray)(hR:Row w b k t n)(hl:l.length=n)(hi:(prog.info? t).map (·.size)=some l.length)(h:∀W2,Blk W2 b k t l->w.grownBy W2 (some b)->wpList prog ops Q rest (a.put o.dst undef) W2):wpList prog ops Q (o :: rest) a w:=by
 obtain⟨l0,hl0,hB⟩:=hR;refine store_cel hgd t x y ho b 0 t [] (ints k l0) [] (ints k l) hx hy (by simpa using hB.cel) rfl (by simp[ints_len];omega) (by rw[hi,ints_len]) (all_ints k l) (fun W2 h1 h2=>h W2 (Cel.blk (by simpa using h1)) h2)
theorem tHash_any(t:List Int)(w:World)(ht:t.length=31):Calls prog 155 #[.agg (ints .i64 t).toArray] w fun r w'=>IsH r/\Bl w w':=by
 obtain⟨w1,hW⟩:=ex_ ((w.alloc (.cells (ints .i64 t).toArray 40)).alloc (.cells (ints .u8 zl).toArray 43));have HB:Hid (Blk w1 w.heap.size .i64 40 t):=by rw[hW];exact(blk40 w t).below b0_ s_
 have HZ:Hid (Row w1 (w.heap.size+1) .u8 43 32):=by rw[hW];exact Row.new zl _ rfl s_
 have Hb:Hid (Bl w w1):=by rw[hW];exact bal b0_
 obtain⟨l,hl⟩:=ex_ (t.take 16);obtain⟨m,hm⟩:=ex_ (t.drop 16);have HL:Hid (l.length=16):=by show _=_;rw[hl,List.length_take];omega
 have HM:Hid (m.length=15):=by show _=_;rw[hm,List.length_drop];omega
 have HRl:Hid (∀w',Bl w1 w'->w'.rangeAt w.heap.size 0 (ints .i64 l)):=fun w' h=>by rw[hl];exact range_take (HB.out.below h HB.out.lt).range 16
 have HRm:Hid (∀w',Bl w1 w'->w'.rangeAt w.heap.size 16 (ints .i64 m)):=fun w' h=>by rw[hm];exact range_drop (HB.out.below h HB.out.lt).range 16
 have HIl:Hid ((prog.info? 37).map (·.size)=some (ints .i64 l).length):=by show _=_;rw[ints_len,HL.out];exact info37
 have HIm:Hid ((prog.info? 38).map (·.size)=some (ints .i64 m).length):=by show _=_;rw[ints_len,HM.out];exact info38
 have HW:=hd_ hW;clear hW hl hm;go_enter func155,ntmps155
 go_wp2_with ((change wpList _ _ _ _ _ ((w.alloc (.cells (ints .i64 t).toArray 40)).alloc (.cells (ints .u8 zl).toArray 43)));rw[<-HW.out];refine wpList_load_mid rfl 37 (.tmp 8) rr w.heap.size 0 rr (ints .i64 l) _ (HRl.out _ (Below.refl _ _)) underlying37 rfl HIl.out ?_);go_loopw [3,10] (fun vx v wr=>∃(i n3:Nat) (A3:Option Addr) (c3:Nat),v=.int .i64 i/\vx=.slice A3 n3 c3/\i<=8/\n3=i*2/\Hid (∃rs,RowsO wr w1.heap.size (.slice A3 n3 c3) n3 rs)/\Hid (Bl w1 wr)) (fun _ v _=>8-(intOf v).toNat)
 case atStart=>exact⟨0,0,none,0,rfl,rfl,by omega,rfl,⟨[],RowsO.nil _ _⟩,Below.refl _ _⟩
 case round=>
  obtain⟨i,n3,A3,c3,rfl,rfl,hi,hn3,hO,hb⟩:=hrel
  obtain⟨rs,hO⟩:=hO.out
  have HN3:=hd_ hn3
  have HOwn:Hid (∀k,(Value.slice A3 n3 c3).ownBlock=some k->k<wr.heap.size):=fun k hk=>(hO.own.lt k hk).2
  have hn16:n3<=16:=by omega
  clear hn3
  by_cases hlt:i<8
  · obtain⟨x,y,_,_,hix⟩:=idx37 l HL.out i hlt wr;have HIX:=hd_ hix;have hbA:Bl wr (wr.alloc (.cells #[.int .i64 x,.int .i64 y] 36)):=b0_;have HO2:=hd_ (hO.below hbA);have Hb2:=tb_ hb hbA;have hk2:(wr.alloc (.cells #[.int .i64 x,.int .i64 y] 36)).heap[wr.heap.size]? = some (.cells #[.int .i64 x,.int .i64 y] 36 (0,0)):=heap_alloc_new _ _;(have hx0:(wr.alloc (.cells #[.int .i64 x,.int .i64 y] 36)).cell? ⟨wr.heap.size,0,none⟩=some (.int .i64 x):=by rw[key_cell hk2];rfl);(have hx1:(wr.alloc (.cells #[.int .i64 x,.int .i64 y] 36)).cell? ⟨wr.heap.size,1,none⟩=some (.int .i64 y):=by rw[key_cell hk2];rfl);(have hl2:wr.heap.size<(wr.alloc (.cells #[.int .i64 x,.int .i64 y] 36)).heap.size:=by simp);have HF:Hid (hx0=hx0):=rfl;clear hix hO hbA hk2 HF;go_wp2_with (refine wpList_index rfl 37 (.tmp 9) (.tmp 10) rfl _ _ _ rr rr HIX.out ?_);generalize hw2:wr.alloc (.cells #[.int .i64 x,.int .i64 y] 36)=w2 at HO2 Hb2 hx0 hx1 hl2 ⊢;clear hw2;refine start_ (n:=10) (S:=fun w'=>w'.cell? ⟨wr.heap.size,0,none⟩=some (.int .i64 x)/\w'.cell? ⟨wr.heap.size,1,none⟩=some (.int .i64 y)) (ds:=[]) (bt 10 0) kk rfl rfl ?hS5 (fun hH=>?_);rotate_left;generalize hw3d:w2.drew=w3d at hH ⊢;(have Hb3:Hid (Bl w1 w3d):=by rw[<-hw3d];exact Hb2.out.drew);(have HO3:Hid (RowsO w3d w1.heap.size (.slice A3 n3 c3) n3 rs):=by rw[<-hw3d];exact HO2.out.drew);(have hl3:wr.heap.size<w3d.heap.size:=by rw[<-hw3d];exact hl2);clear hw3d;refine pure_ (i:=0) (N:=some 13) (v:=?_) (a':=?_) (bt 10 1) rfl rfl kk (fun _ _ _ h=>h) (Or.inl ⟨by rfl,?_⟩) ?_ ?_;rotate_left;(· intro w';go_simp;with_reducible rfl);rotate_left;(· simp only[Act.put,List.setIfInBounds_toArray,List.set_cons_zero,List.set_cons_succ];rfl);refine pure_ (i:=1) (N:=some 14) (v:=?_) (a':=?_) (bt 10 3) rfl rfl kk (fun _ _ _ h=>h) (Or.inl ⟨by rfl,?_⟩) ?_ ?_;rotate_left;(· intro w';go_simp;with_reducible rfl);rotate_left;(· simp only[Act.put,List.setIfInBounds_toArray,List.set_cons_zero,List.set_cons_succ];rfl);refine take_ (i:=2) (N:=some 15) (v:=?_) (a':=?_) (bt 10 7) rfl rfl kk (fun _ _ _ h=>h) (Or.inl ⟨by rfl,?_⟩) hH ?_ ?_;rotate_left;(· rintro w' ⟨s0,s1⟩;go_simp;with_reducible rfl);rotate_left;(· simp only[Act.put,List.setIfInBounds_toArray,List.set_cons_zero,List.set_cons_succ];rfl);refine pure_ (i:=4) (N:=some 17) (v:=?_) (a':=?_) (bt 10 23) rfl rfl kk (fun _ _ _ h=>h) (Or.inl ⟨by rfl,?_⟩) ?_ ?_;rotate_left;(· intro w';go_simp;with_reducible rfl);rotate_left;(· simp only[Act.put,List.setIfInBounds_toArray,List.set_cons_zero,List.set_cons_succ];rfl);refine take_ (i:=5) (N:=some 18) (v:=?_) (a':=?_) (bt 10 55) rfl rfl kk (fun _ _ _ h=>h) (Or.inl ⟨by rfl,?_⟩) hH ?_ ?_;rotate_left;(· rintro w' ⟨s0,s1⟩;go_simp;with_reducible rfl);rotate_left;(· simp only[Act.put,List.setIfInBounds_toArray,List.set_cons_zero,List.set_cons_succ];rfl);refine one_ (i:=3) (N:=some 16) (bt 10 63) rfl rfl kk dd (fun K hK=>?_);refine goes_ func38 kk rfl #[.int .i64 x] rr rfl rfl mL ?_;refine(num_any x w3d).mono ?_;rintro _ w4 ⟨⟨A4,c4,l4,rfl,ho4,hl4⟩,hb4⟩;refine⟨_,rfl,?_⟩;have Hb4:Hid (Bl w1 w4):=Hb3.out.trans (hb4.mono Hb3.out.size);have HO4:=hd_ (HO3.out.below hb4);have HR4:Hid (Rd w4 .u8 A4 8 c4 l4):=rd_own ho4 hl4;have HA4:Hid (∀k,(Value.slice A4 8 c4).ownBlock=some k->w3d.heap.size<=k):=fun k hk=>(ho4.lt k hk).1;have HB4:Hid (∀k,(Value.slice A4 8 c4).ownBlock=some k->k<w4.heap.size):=fun k hk=>(ho4.lt k hk).2;have hl4':wr.heap.size<w4.heap.size:=Nat.lt_of_lt_of_le hl3 hb4.size;refine hK.out _ _ ⟨(hb4.cell hl3).trans hH.1,(hb4.cell hl3).trans hH.2⟩ (fun hH=>?_);clear hK K ho4 hl4;refine mN ?_;refine one_ (i:=6) (N:=some 19) (bt 10 127) rfl rfl kk dd (fun K hK=>?_);refine goes_ func38 kk rfl #[.int .i64 y] rr rfl rfl mL ?_;refine(num_any y w4).mono ?_;rintro _ w5 ⟨⟨A5,c5,l5,rfl,ho5,hl5⟩,hb5⟩;refine⟨_,rfl,?_⟩;have Hb5:Hid (Bl w1 w5):=Hb4.out.trans (hb5.mono Hb4.out.size);have HO5:=hd_ (HO4.out.below hb5);have HR5:Hid (Rd w5 .u8 A5 8 c5 l5):=rd_own ho5 hl5;have HR45:=hd_ (HR4.out.below hb5);have HA5:Hid (∀k,(Value.slice A5 8 c5).ownBlock=some k->w3d.heap.size<=k):=fun k hk=>Nat.le_trans hb4.size (ho5.lt k hk).1;have HB5:Hid (∀k,(Value.slice A5 8 c5).ownBlock=some k->k<w5.heap.size):=fun k hk=>(ho5.lt k hk).2;have h45:w4.heap.size<=w5.heap.size:=hb5.size;have hl5':wr.heap.size<w5.heap.size:=Nat.lt_of_lt_of_le hl4' hb5.size;have h35:w3d.heap.size<=w5.heap.size:=Nat.le_trans hb4.size hb5.size;refine hK.out _ _ ⟨(hb5.cell hl4').trans hH.1,(hb5.cell hl4').trans hH.2⟩ (fun hH=>?_);clear hK K ho5 hl5;refine mN ?_;refine one_ (i:=7) (N:=some 20) (bt 10 255) rfl rfl kk dd (fun K hK=>?_);refine step_val rr (v:=.slice (some ⟨w5.heap.size,0,none⟩) 2 2) (w1:=w5.alloc (.cells #[.slice A4 8 c4,.slice A5 8 c5] 31)) (by go_simp) ?_;have hbA:Bl w5 (w5.alloc (.cells #[.slice A4 8 c4,.slice A5 8 c5] 31)):=b0_
    have HRR:Hid (RdR (w5.alloc (.cells #[.slice A4 8 c4,.slice A5 8 c5] 31)) (some ⟨w5.heap.size,0,none⟩) 2 2 60000 [(A4,8,c4,l4),(A5,8,c5,l5)]):=rdr_new w5 [(A4,8,c4,l4),(A5,8,c5,l5)] _ 2 rfl rfl (fun r hr=>by
     simp at hr
     rcases hr with rfl|rfl
     · exact⟨HR45.out,by show 8<=_;omega⟩
     · exact⟨HR5.out,by show 8<=_;omega⟩)
    refine hK.out _ _ ⟨(hbA.cell hl5').trans hH.1,(hbA.cell hl5').trans hH.2⟩ (fun hH=>?_);clear hK K;have HO6:=hd_ (HO5.out.below hbA);have Hb6:=tb_ Hb5 hbA;generalize hW6:w5.alloc (.cells #[.slice A4 8 c4,.slice A5 8 c5] 31)=w6 at HRR HO6 Hb6 hH hbA ⊢;have h36:w3d.heap.size<=w6.heap.size:=Nat.le_trans h35 hbA.size;have h56:w5.heap.size<=w6.heap.size:=hbA.size;have hl6:wr.heap.size<w6.heap.size:=Nat.lt_of_lt_of_le hl5' hbA.size;clear hW6 hbA;refine norm_ (a':=?_) ?_ ?_;rotate_left;(· show Act.put _ (some 20) _=_;simp only[Act.put,List.setIfInBounds_toArray,List.set_cons_zero,List.set_cons_succ];rfl);refine one_ (i:=8) (N:=some 21) (bt 10 511) rfl rfl kk dd (fun K hK=>?_);refine step_append_rg rfl (.tmp 13) (.tmp 20) 67 rr w1.heap.size 31 1 24 et67 (.slice A3 n3 c3) n3 (rs.map sv) rr HO6.out.own (some ⟨w5.heap.size,0,none⟩) 2 2 ([(A4,8,c4,l4),(A5,8,c5,l5)].map sv) rr HRR.out.rg sv_one o_ (by unfold maxLen;omega) Hb6.out.size ?_;intro A7 c7 w7 hown7 hgrow hb7 hat;have Hb7:Hid (Bl w1 w7):=Hb6.out.trans hb7;(have hfar7:∀b,wr.heap.size<=b->(Value.slice A3 n3 c3).ownBlock≠some b:=fun b hb e=>by have:=HOwn.out b e;omega)
    have HO7:Hid (RowsO w7 w1.heap.size (.slice A7 (n3+2) c7) (n3+2) (rs ++ [(A4,8,c4,l4),(A5,8,c5,l5)])):=HO6.out.app HRR.out hown7 hgrow hat (fun r hr k hk=>by
     simp at hr
     rcases hr with rfl|rfl
     · have:=HA4.out k hk;exact⟨by have:=HB4.out k hk;omega,hfar7 k o_⟩
     · have:=HA5.out k hk;exact⟨by have:=HB5.out k hk;omega,hfar7 k o_⟩)
    have hc0:w7.cell? ⟨wr.heap.size,0,none⟩=some (.int .i64 x):=hgrow.cell hH.1 (fun e=>hfar7 _ (Nat.le_refl _) e.symm);have hc1:w7.cell? ⟨wr.heap.size,1,none⟩=some (.int .i64 y):=hgrow.cell hH.2 (fun e=>hfar7 _ (Nat.le_refl _) e.symm);refine hK.out _ _ ⟨hc0,hc1⟩ (fun hH=>?_);clear hK K hgrow hb7 hat hown7;refine norm_ (a':=?_) ?_ ?_;rotate_left;(· show Act.put _ (some 21) _=_;simp only[Act.put,List.setIfInBounds_toArray,List.set_cons_zero,List.set_cons_succ];rfl);refine pure_ (i:=9) (N:=some 3) (v:=?_) (a':=?_) (bt 10 1023) rfl rfl kk (fun _ _ _ h=>h) (Or.inl ⟨by rfl,?_⟩) ?_ ?_;rotate_left;(· intro w';go_simp;with_reducible rfl);rotate_left;(· simp only[Act.put,List.setIfInBounds_toArray,List.set_cons_zero,List.set_cons_succ];rfl);refine done_ kk ?_;go_wp2;(case hS5=>exact⟨hx0,hx1⟩);go_roundw;(case rel=>exact⟨i+1,n3+2,A7,c7,by go_num,rfl,by omega,by have:=HN3.out;omega,⟨_,HO7.out⟩,Hb7.out⟩);case measure=>simp[intOf];omega
  · (have hn3:n3=16:=by have:=HN3.out;omega);subst hn3;clear HN3 hn16;go_wp2_with (refine wpList_load_mid rfl 38 (.tmp 23) rr w.heap.size 16 rr (ints .i64 m) _ (HRm.out _ hb.out) underlying38 rfl HIm.out ?_);(go_loopw [3,25] (fun vx v w'=>∃(j n3:Nat) (A3:Option Addr) (c3:Nat),v=.int .i64 j/\vx=.slice A3 n3 c3/\j<=15/\n3=16+j/\Hid (∃rs,RowsO w' w1.heap.size (.slice A3 n3 c3) n3 rs)/\Hid (Bl w1 w')) (fun _ v _=>15-(intOf v).toNat));(case atStart=>exact⟨0,16,A3,c3,rfl,rfl,by omega,rfl,⟨_,hO⟩,hb⟩)
    case round=>
     clear hb hO
     obtain⟨j,n4,A3,c3,rfl,rfl,hj,hn4,hO,hb⟩:=hrel
     obtain⟨rs,hO⟩:=hO.out
     have HN4:=hd_ hn4
     have HO:=hd_ hO
     have hn31:n4<=31:=by omega
     clear hn4 hO
     by_cases hlj:j<15
     · obtain⟨x,_,hix⟩:=idx38 m HM.out j hlj wr;have HIX:=hd_ hix;clear hix;go_wp2_with (refine wpList_index rfl 38 (.tmp 24) (.tmp 25) rfl _ _ _ rr rr HIX.out ?_);have HOwn:Hid (∀k,(Value.slice A3 n4 c3).ownBlock=some k->k<wr.heap.size):=fun k hk=>(HO.out.own.lt k hk).2;refine(num_any x wr).mono ?_;rintro _ w4 ⟨⟨A4,c4,l4,rfl,ho4,hl4⟩,hb4⟩;have hbA:Bl w4 (w4.alloc (.cells #[.slice A4 8 c4] 31)):=b0_;have hb6:=hb4.trans (hbA.mono hb4.size);have HR4:Hid (Rd w4 .u8 A4 8 c4 l4):=rd_own ho4 hl4
       have HRR:Hid (RdR (w4.alloc (.cells #[.slice A4 8 c4] 31)) (some ⟨w4.heap.size,0,none⟩) 1 1 60000 [(A4,8,c4,l4)]):=rdr_new w4 [(A4,8,c4,l4)] _ 1 rfl rfl (fun r hr=>by
        simp at hr
        rcases hr with rfl
        exact⟨HR4.out,by show 8<=_;omega⟩)
       have HO6:=hd_ (HO.out.below hb6);have Hb6:=tb_ hb hb6;have HA4:Hid (∀k,(Value.slice A4 8 c4).ownBlock=some k->wr.heap.size<=k/\k<(w4.alloc (.cells #[.slice A4 8 c4] 31)).heap.size):=fun k hk=>⟨(ho4.lt k hk).1,Nat.lt_of_lt_of_le (ho4.lt k hk).2 hbA.size⟩;have HS6:Hid (w1.heap.size<=(w4.alloc (.cells #[.slice A4 8 c4] 31)).heap.size):=Hb6.out.size;clear hbA hb6 ho4 hl4 hb4;go_wp2_with (at_builtin;refine append_rg rfl (.tmp 28) (.tmp 31) 67 rfl w1.heap.size 31 1 24 et67 (.slice A3 n4 c3) n4 (rs.map sv) rfl HO6.out.own (some ⟨w4.heap.size,0,none⟩) 1 1 ([(A4,8,c4,l4)].map sv) rfl HRR.out.rg sv_one o_ (by unfold maxLen;omega) HS6.out ?_;intro A7 c7 w7 hown7 hgrow hb7 hat)
       have HO7:Hid (RowsO w7 w1.heap.size (.slice A7 (n4+1) c7) (n4+1) (rs ++ [(A4,8,c4,l4)])):=HO6.out.app HRR.out hown7 hgrow hat (fun r hr k hk=>by
        simp at hr
        rcases hr with rfl
        obtain⟨h1,h2⟩:=HA4.out k hk
        exact⟨h2,fun e=>by have:=HOwn.out k e;omega⟩)
       have Hb7:=hd_ (Hb6.out.trans hb7);clear hown7 hgrow hb7 hat;go_wp2_with fail;go_roundw;(case rel=>exact⟨j+1,n4+1,A7,c7,by go_num,rfl,by omega,by have:=HN4.out;omega,⟨_,HO7.out⟩,Hb7.out⟩);case measure=>simp[intOf];omega
     · have Hbw:Hid (Bl w wr):=Hb.out.trans (hb.out.mono Hb.out.size);have hS:w.heap.size+1<w1.heap.size:=HZ.out.lt;go_wp2_with fail;change Calls prog 37 #[.agg (ints .u8 zl).toArray,_,_] _ _;refine(derive_any zl _ A3 n4 c3 rs wr rfl dd ⟨HO.out.len,own_rg HO.out.own,HO.out.each⟩ o_).mono ?_;rintro _ w9 ⟨⟨l9,hl9,rfl⟩,hb9⟩;have H9:=(HZ.out.below hb.out HZ.out.lt).below hb9 (Nat.lt_of_lt_of_le HZ.out.lt hb.out.size);have Hb9:=tb_ Hbw hb9;have HLh:=hd_ hl9;clear hb9 hl9;go_wp2_with (refine store_blk rfl 43 (.tmp 2) (.tmp 36) rr (w.heap.size+1) .u8 l9 rr rr H9 HLh.out (by show _=_;rw[HLh.out];exact info43) ?_;intro w10 hB10 hg10);have hload:=hB10.loads underlying43 rfl (by show _=_;rw[HLh.out];exact info43);refine bodyPost_ret (v:=.agg (ints .u8 l9).toArray) (by simp[results,results155,asAddr,Act.put,hload]) rfl ⟨⟨l9,HLh.out,rfl⟩,?_⟩;exact Hb9.out.grown hg10 Hb9.out.size (fun k hk=>by cases hk;omega)
end Go.Proofs.YtppjnahcnofokaaGreat.T
namespace Go.Proofs.YtppjnahcnofokaaGreat.T
open Go.RowKit Go.Proofs.YtppjnahcnofokaaGreatW.PrintLast
open Go.Proofs.Tryz
variable{k:IntKind}{a:Act}{b i n B base m fuel D B':Nat}{l ch t0:List Int}{w w' w1 w2:World}{t:TypeId}{P:Program}{cs xs vs l3:List Value}{A A':Option Addr}{o oi:Oper}{e s f st fl:Int}{ops:Array Oper}{rest l0:List Oper}{v:Value}{r:Option Nat}{rs rs2:List (Option Addr×Nat×Nat×List Int)}{E:Prop}{ad ai go:List Bool}{N:Act->Prop}{place:Nat->Option (Nat×Nat)}{bad:Bool}{es es':List (Int×List Int)}{T:List TypeId}
def bools(l:List Bool):List Value:=l.map .bool
theorem bools_len(l:List Bool):(bools l).length=l.length:=by simp[bools]
def vw(e:Int)(t:List Int)(ad:List Bool)(k:Int)(ch:List Int):List Value:=[.int .i64 e]++(ints .i64 t++(bools ad++([.int .i64 k]++ints .u8 ch)))
structure VwOk (t:List Int) (ad:List Bool) (ch:List Int):Prop where
 tree:t.length=31
 admins:ad.length=8
 chain:ch.length=32
theorem vw_len{k:Int}{t:List Int}(h:VwOk t ad ch):(vw e t ad k ch).length=73:=by
 simp[vw,ints_len,bools_len,h.tree,h.admins,h.chain]
theorem vw_tree{k:Int}{t:List Int}(h:VwOk t ad ch)(i:Nat)(hi:i<31):(vw e t ad k ch)[1+i]? = some (.int .i64 (t.getD i 0)):=by
 have h1:=h.tree;unfold vw;rw[List.getElem?_append_right s_,List.getElem?_append_left (by simp[ints_len];omega)];have e:1+i - [Value.int IntKind.i64 e].length=i:=by simp
 rw[e];exact ints_get (by rw[List.getD_eq_getElem?_getD,List.getElem?_eq_getElem o_];rfl)
theorem vw_admin{k:Int}{t:List Int}(h:VwOk t ad ch)(i:Nat)(hi:i<8):(vw e t ad k ch)[32+i]? = some (.bool (ad.getD i false)):=by
 have h1:=h.tree;have h2:=h.admins;unfold vw;rw[List.getElem?_append_right s1_,List.getElem?_append_right (by simp[ints_len];omega),List.getElem?_append_left (by simp[ints_len,bools_len];omega)];have e:32+i - [Value.int IntKind.i64 e].length-(ints .i64 t).length=i:=by simp[ints_len];omega
 rw[e,bools,List.getElem?_map,List.getElem?_eq_getElem o_];simp[List.getElem?_eq_getElem (show i<ad.length by omega)]
theorem vw_k{k:Int}{t:List Int}(h:VwOk t ad ch):(vw e t ad k ch)[40]? = some (.int .i64 k):=by
 have h1:=h.tree;have h2:=h.admins;unfold vw;rw[List.getElem?_append_right s_,List.getElem?_append_right (by simp[ints_len];omega),List.getElem?_append_right (by simp[ints_len,bools_len];omega)];simp[ints_len,bools_len,h1,h2]
theorem vw_all(e:Int)(t:List Int)(ad:List Bool)(k:Int)(ch:List Int):∀v ∈ vw e t ad k ch,v.oneCell'=true:=by
 intro v hv;simp only[vw,List.mem_append,ints,bools,List.mem_map,List.mem_singleton]at hv;rcases hv with rfl|⟨x,_,rfl⟩|⟨x,_,rfl⟩|rfl|⟨x,_,rfl⟩<;>rfl
theorem info45:(prog.info? 45).map (·.size)=some 73:=by kernel_rfl
theorem info41:(prog.info? 41).map (·.size)=some 8:=by kernel_rfl
theorem info4:(prog.info? 4).map (fun i=>(i.zero,i.size,i.bytes))=some (some (.bool false),1,1):=by kernel_rfl
theorem idx41(l:List Bool)(hl:l.length=8)(i:Nat)(hi:i<8)(w:World):∃x:Bool,(Instr.index 41 (.agg (bools l).toArray) (.int .i64 (i:Int))).run prog w=.ok (.bool x) w:=by
 obtain⟨inf,hinf,_,hs,_⟩:=info_parts info4;refine⟨l[i],?_⟩;exact run_index_plain w 41 4 8 _ i _ inf underlying41 hinf hs kk hi (by simp[bools,List.getElem?_eq_getElem (show i<l.length by omega)])
theorem load_g{op:Oper}{Q:Exit->Act->World->Prop}(hw:Region.wanted op (yielded ops a.tmps)=true)(ty:TypeId)(x:Operand)(ho:op.op=.load ty x)(b o:Nat)(hx:a.eval x=.pointer (some ⟨b,o,none⟩))(cs:List Value)(d:TypeDesc)(hc:w.rangeAt b o cs)(hu:prog.underlying ty=some d)(hd:d.isRow=true)(hi:(prog.info? ty).map (·.size)=some cs.length)(h:wpList prog ops Q rest (a.put op.dst (.agg cs.toArray)) w):wpList prog ops Q (op :: rest) a w:=
 wpList_step fun _ hK=>by rw[if_pos hw];exact wp_load_mid ty x ho b o hx cs d hc hu hd hi (hK _ _ h)
theorem vw_hi{k:Int}{t:List Int}(h:VwOk t ad ch):(prog.info? 45).map (·.size)=some (vw e t ad k ch).length:=by rw[vw_len h];exact info45
def MemOk(n:Int)(r:Ending):Prop:=∃b,r=.returned (.bool b)/\(b=true->0<=n/\n<8)
theorem vw_load{k:Int}{t:List Int}(h:VwOk t ad ch)(hC:Cel w b 45 (vw e t ad k ch)):(loadVar 45 ⟨b,0,none⟩).run prog w=.ok (.agg (vw e t ad k ch).toArray) w:=
 run_loadVar_mid (P:=prog) _ b 0 45 (vw e t ad k ch) _ hC.all underlying45 rfl (by rw[vw_len h];exact info45)
theorem isMember_any(e k n:Int)(t ch:List Int)(ad:List Bool)(w:World)(h:VwOk t ad ch):Calls prog 149 #[.agg (vw e t ad k ch).toArray,.int .i64 n] w fun r w'=>MemOk n r/\Bl w w':=by
 obtain⟨w1,hW⟩:=ex_ (w.alloc (.cells (vw e t ad k ch).toArray 45));have HC:Hid (Cel w1 w.heap.size 45 (vw e t ad k ch)):=by rw[hW];exact Cel.new _ rfl rfl
 have HV:=hd_ h;have HW:=hd_ hW;clear hW h;go_enter func149,ntmps149
 by_cases h0:0<=n
 · by_cases h8:n<8
   · obtain⟨m,rfl⟩:=Int.eq_ofNat_of_zero_le h0;(have hm:m*2+1<31:=by omega);(have c0:(w.alloc (.cells (vw e t ad k ch).toArray 45)).cell? ⟨w.heap.size,1+m*2,none⟩=some (.int .i64 (t.getD (m*2) 0)):=by rw[<-HW.out,HC.out.cell];exact vw_tree HV.out (m*2) o_);(have c1:(w.alloc (.cells (vw e t ad k ch).toArray 45)).cell? ⟨w.heap.size,1+m*2+1,none⟩=some (.int .i64 (t.getD (m*2+1) 0)):=by rw[<-HW.out,HC.out.cell];exact vw_tree HV.out (m*2+1) hm);go_wp2
     all_goals
      go_ret
      exact⟨⟨_,rfl,fun _=>⟨h0,h8⟩⟩,b0_⟩
   go_wp2;go_ret;exact⟨⟨_,rfl,by simp⟩,b0_⟩
 go_wp2;go_ret;exact⟨⟨_,rfl,by simp⟩,b0_⟩
theorem admins_any(e k:Int)(t ch:List Int)(ad:List Bool)(w:World)(h:VwOk t ad ch):Calls prog 151 #[.agg (vw e t ad k ch).toArray] w fun r w'=>(∃x,r=.returned (.int .i64 x))/\Bl w w':=by
 obtain⟨w1,hW⟩:=ex_ (w.alloc (.cells (vw e t ad k ch).toArray 45));have HC:Hid (Cel w1 w.heap.size 45 (vw e t ad k ch)):=by rw[hW];exact Cel.new _ rfl rfl
 have Hb:Hid (Bl w w1):=by rw[hW];exact b0_
 have HV:=hd_ h;have HW:=hd_ hW;have HR:Hid (w1.rangeAt w.heap.size 32 (bools ad)):=by
  have:=Cel.range (l1:=.int .i64 e :: ints .i64 t) (l2:=bools ad) (l3:=[.int .i64 k]++ints .u8 ch) (by simpa[vw] using HC.out);have e:(Value.int IntKind.i64 e :: ints .i64 t).length=32:=by simp[ints_len,h.tree]
  rw[e]at this;exact this
 have HI:Hid ((prog.info? 41).map (·.size)=some (bools ad).length):=by show _=_;rw[bools_len,h.admins];exact info41
 clear hW h;go_enter func151,ntmps151
 go_wp2_with ((change wpList _ _ _ _ _ (w.alloc (.cells (vw e t ad k ch).toArray 45)));rw[<-HW.out];refine wpList_load_mid rfl 41 (.tmp 6) rr w.heap.size 32 rr (bools ad) _ HR.out underlying41 rfl HI.out ?_);go_loopw [3,8] (fun vc v wr=>∃(i:Nat) (x:Int),v=.int .i64 i/\vc=.int .i64 x/\i<=8/\Hid (Bl w1 wr)) (fun _ v _=>8-(intOf v).toNat)
 case atStart=>exact⟨0,0,rfl,rfl,by omega,Below.refl _ _⟩
 case round=>
  obtain⟨i,x,rfl,rfl,hi,hb⟩:=hrel;by_cases hlt:i<8
  · have HC2:=hd_ (HC.out.below hb.out HC.out.lt);obtain⟨b,hx⟩:=idx41 ad HV.out.admins i hlt wr;have HX:=hd_ hx;clear hx
    cases b with
    | false=>
     go_wp2_with (refine wpList_index rfl 41 (.tmp 7) (.tmp 8) rfl _ _ _ rr rr HX.out ?_);go_roundw;(case rel=>exact⟨i+1,x,by go_num,rfl,by omega,hb⟩);case measure=>simp[intOf];omega
    | true=>
     go_wp2_with (first|(refine wpList_index rfl 41 (.tmp 7) (.tmp 8) rfl _ _ _ rr rr HX.out ?_)|(refine load_g rr 45 (.tmp 1) rr w.heap.size 0 rr (vw e t ad k ch) _ HC2.out.all underlying45 rfl (vw_hi HV.out) ?_));refine(isMember_any e k i t ch ad _ HV.out).mono ?_;rintro _ w4 ⟨⟨b,rfl,_⟩,hb4⟩;have Hb4:=tb_ hb hb4;clear hb4
     cases b with
     | false=>
      go_wp2_with fail;go_ret;exact⟨⟨_,rfl⟩,Hb.out.trans (Hb4.out.mono Hb.out.size)⟩
     | true=>
      go_wp2_with fail;go_roundw;(case rel=>exact⟨i+1,_,by go_num,rfl,by omega,Hb4⟩);case measure=>simp[intOf];omega
  go_wp2_with fail;go_ret;exact⟨⟨_,rfl⟩,Hb.out.trans (hb.out.mono Hb.out.size)⟩
end Go.Proofs.YtppjnahcnofokaaGreat.T
namespace Go.Proofs.YtppjnahcnofokaaGreat.T
open Go.RowKit Go.Proofs.YtppjnahcnofokaaGreatW.PrintLast
open Go.Proofs.Tryz
variable{k:IntKind}{a:Act}{b i n B base m fuel D B':Nat}{l ch t0:List Int}{w w' w1 w2:World}{t:TypeId}{P:Program}{cs xs vs l3:List Value}{A A':Option Addr}{o oi:Oper}{e s f st fl:Int}{ops:Array Oper}{rest l0:List Oper}{v:Value}{r:Option Nat}{rs rs2:List (Option Addr×Nat×Nat×List Int)}{E:Prop}{ad ai go:List Bool}{N:Act->Prop}{place:Nat->Option (Nat×Nat)}{bad:Bool}{es es':List (Int×List Int)}{T:List TypeId}
section
variable {P:Program} {Q:Exit->Act->World->Prop} {md:Region.Mode} {S:World->Prop} {ds:List Nat} {ops:Array Oper}
def Qn(P:Program)(md:Region.Mode)(ops:Array Oper)(Q:Exit->Act->World->Prop)(fuel:Nat)(l:Array Bool):Exit->Act->World->Prop
 | .normal,a,w=>wpAny P md ops Q fuel l a w
 | e,a,w=>Q e a w
theorem opwp_qn{K:Act->World->Prop}{l:Array Bool}(hh:o.wp P a w K (Qn P md ops Q fuel l)):o.wp P a w K Q:=by
 unfold Oper.wp at *;generalize (execOp a.eval o).run P w=r at *
 cases r with
 | ok n w'=>
  cases n<;>simp only[Oper.upon]at hh ⊢ <;>
   first
    | exact hh
    | exact Calls.mono hh (fun e w'' he=>by cases e<;>exact he)
    | exact Rows.mono hh (fun _ _ he=>he)
 | halt x w'=>cases x<;>simp only[Oper.upon]at hh ⊢<;>exact hh
theorem lets_qn{l:Array Bool}(h:LetsOut (Qn P md ops Q fuel l)):LetsOut Q:=by
 obtain⟨a,w,h⟩:=h;exact⟨a,w,h⟩
def headB(md:Region.Mode)(ops:Array Oper)(l:Array Bool):Nat->Nat->Array Bool->Bool
 | 0,_,listed=>listed==l
 | m+1,i,listed=>decide (Region.ready md ops listed=[i])&&headB md ops l m (i+1) (listed.setIfInBounds i true)
theorem head_go{l:Array Bool}{k:Nat}:∀(r:List Oper) (i:Nat) (listed:Array Bool) (a:Act) (w:World),(∀j,j<r.length->r[j]? = ops[i+j]?) -> headB md ops l r.length i listed=true->wpList P ops (Qn P md ops Q k l) r a w->wpAny P md ops Q (r.length+k) listed a w
 | [],i,listed,a,w,_,hB,h=>by
  have e:listed=l:=by simpa[headB] using hB
  subst e;have h':wpAny P md ops Q k listed a w:=h;simpa using h'
 | o :: r,i,listed,a,w,hl,hB,h=>by
  have h0:ops[i]? = some o:=by simpa using(hl 0 s_).symm
  simp only[List.length_cons,headB,Bool.and_eq_true,decide_eq_true_eq]at hB;rw[List.length_cons,show r.length+1+k=(r.length+k)+1 by omega];refine⟨fun h1=>(by rw[hB.1]at h1;cases h1),fun j hj=>?_⟩;rw[hB.1]at hj;have hij:j=i:=by simpa using hj
  subst hij;have hw:wpOp P ops Q j (wpList P ops (Qn P md ops Q k l) r) a w:=by unfold wpOp;simp only[h0];unfold wpList at h;split;(· rename_i hwa;rw[if_pos hwa]at h;exact h.imp opwp_qn (fun hx=>⟨hx.1,lets_qn hx.2⟩));rename_i hwa;rw[if_neg hwa]at h;exact h
  exact wpOp_mono (fun a' w' h'=>head_go r (j+1) _ a' w' (fun j' hj'=>by have:=hl (j'+1) (by simpa using hj');simpa[Nat.add_assoc,Nat.add_comm 1 j'] using this) hB.2 h') hw
def preB(md:Region.Mode)(ops:Array Oper)(l:Array Bool)(m:Nat):Bool:=decide (m<=ops.size)&&headB md ops l m 0 (Array.replicate ops.size false)
theorem pre_region{id:Nat}(m k:Nat)(l:Array Bool)(hm:P.follows .mixedOrders=true)(hn:l0.length=m+k)(hc:preB .any l0.toArray l m=true)(h:∀w1,w.drew=w1->wpList P l0.toArray (Qn P .any l0.toArray Q k l) (l0.take m) a w1):(Code.region id l0.toArray true).wp P Q a w:=by
 refine wp_region_any hm ?_;simp only[preB,Bool.and_eq_true,decide_eq_true_eq]at hc;have hlen:(l0.take m).length=m:=by rw[List.length_take];omega
 have:=head_go (P:=P) (Q:=Q) (md:=.any) (ops:=l0.toArray) (l:=l) (k:=k) (l0.take m) 0 (Array.replicate l0.toArray.size false) a w.drew
  (fun j hj=>by rw[hlen]at hj;simp[List.getElem?_take,hj]) (by rw[hlen];exact hc.2) (h w.drew rfl)
 rw[hlen]at this;have he:l0.toArray.size=m+k:=by simpa using hn
 rw[he]at this ⊢;exact this
def tailB(md:Region.Mode)(ops:Array Oper)(ds:List Nat):Nat->Nat->Array Bool->Bool
 | 0,_,listed=>Region.ready md ops listed == []
 | g+1,k,listed=>decide (Region.ready md ops listed=[k])&&ds.contains k&&tailB md ops ds g (k+1) (listed.setIfInBounds k true)
theorem tail_:∀(r:List Oper) (k:Nat) (listed:Array Bool) (a:Act) (w:World),(∀j,r[j]? = ops[k+j]?) -> tailB md ops ds r.length k listed=true->wpList P ops Q r a w->wpAnyLast P md ops Q S ds r.length listed a w
 | [],k,listed,a,w,_,hB,h=>⟨by simpa[tailB] using hB,h⟩
 | o :: r,k,listed,a,w,hl,hB,h=>by
  have h0:ops[k]? = some o:=by simpa using(hl 0).symm
  simp only[List.length_cons,tailB,Bool.and_eq_true,decide_eq_true_eq]at hB;refine⟨fun h1=>(by rw[hB.1.1]at h1;cases h1),fun j hj=>?_⟩;rw[hB.1.1]at hj;have hij:j=k:=by simpa using hj
  subst hij;have hd:j ∈ ds:=by simpa using hB.1.2
  have hw:wpOp P ops Q j (wpList P ops Q r) a w:=by unfold wpOp;simp only[h0];exact h
  exact wpOp_mono (fun a' w' h'=>⟨fun hn=>absurd hd hn,tail_ r (j+1) _ a' w' (fun j'=>by have:=hl (j'+1);simpa[Nat.add_assoc,Nat.add_comm 1 j'] using this) hB.2 h'⟩) hw
theorem tail_lit{listed:Array Bool}(k:Nat)(hc:tailB md l0.toArray ds fuel k listed=true)(hn:(l0.drop k).length=fuel)(_hk:k<=l0.length)(h:wpList P l0.toArray Q (l0.drop k) a w):wpAnyLast P md l0.toArray Q S ds fuel listed a w:=by
 subst hn;exact tail_ (l0.drop k) k listed a w (fun j=>by simp) hc h
theorem hq_(hQ:∀(d:Tmp) (v:Value) c a w,Q (.panic c) (a.put (some d) v) w->Q (.panic c) a w)(d:Option Tmp)(v:Value):∀c a w,Q (.panic c) (a.put d v) w->Q (.panic c) a w:=fun c a w h=>by cases d with
 | none=>exact h
 | some d=>exact hQ d v c a w h
def TakesL(P:Program)(ops:Array Oper)(S:World->Prop)(N:Act->Prop):List Oper->Act->Prop
 | [],a=>N a
 | o :: r,a=>∃v,YieldsIf P ops S o v a/\TakesL P ops S N r (a.put o.dst v)
theorem takes_nil(h:N a):TakesL P ops S N [] a:=h
theorem takes_cons{r:List Oper}(hy:YieldsIf P ops S o v a){a':Act}(ha:a.put o.dst v=a')(h:TakesL P ops S N r a'):TakesL P ops S N (o :: r) a:=by
 subst ha;exact⟨v,hy,h⟩
def takesB(md:Region.Mode)(ops:Array Oper)(ds:List Nat)(l':Array Bool):Nat->Nat->Array Bool->Bool
 | 0,_,l=>l==l'
 | c+1,i,l=>Region.free md ops l i&&(Region.ready md ops l).contains i&&Region.closedB md ops l&&Region.lastB md ops l ds i&&takesB md ops ds l' c (i+1) (l.setIfInBounds i true)
theorem takes_go{l':Array Bool}{f:Nat}(hsel:Region.noSelect ops=true)(hQ:∀(d:Tmp) (v:Value) c a w,Q (.panic c) (a.put (some d) v) w->Q (.panic c) a w)(hS:S w):∀(r:List Oper) (i:Nat) (l:Array Bool) (a:Act),(∀j,j<r.length->r[j]? = ops[i+j]?) -> takesB md ops ds l' r.length i l=true->TakesL P ops S (fun a'=>wpAnyLast P md ops Q S ds f l' a' w) r a->wpAnyLast P md ops Q S ds (r.length+f) l a w
 | [],i,l,a,_,hB,h=>by
  have e:l=l':=by simpa[takesB] using hB
  subst e;have h':wpAnyLast P md ops Q S ds f l a w:=h;simpa using h'
 | o :: r,i,l,a,hl,hB,h=>by
  have h0:ops[i]? = some o:=by simpa using(hl 0 s_).symm
  simp only[List.length_cons,takesB,Bool.and_eq_true]at hB;obtain⟨⟨⟨⟨h1,h2⟩,h3⟩,h4⟩,h5⟩:=hB;obtain⟨v,hy,hn⟩:=h;rw[List.length_cons,show r.length+1+f=(r.length+f)+1 by omega];exact wpAnyLast_take h0 hsel h1 h2 h3 h4 (hq_ hQ _ _) hy hS (takes_go hsel hQ hS r (i+1) _ _ (fun j' hj'=>by have:=hl (j'+1) (by simpa using hj');simpa[Nat.add_assoc,Nat.add_comm 1 j'] using this) h5 hn)
theorem takes_{l:Array Bool}(i c f:Nat)(l':Array Bool)(hc:(Region.noSelect l0.toArray&&takesB md l0.toArray ds l' c i l)=true)(hf:fuel=c+f)(hi:i+c<=l0.length)(hQ:∀(d:Tmp) (v:Value) c a w,Q (.panic c) (a.put (some d) v) w->Q (.panic c) a w)(hS:S w)(h:TakesL P l0.toArray S (fun a'=>wpAnyLast P md l0.toArray Q S ds f l' a' w) ((l0.drop i).take c) a):wpAnyLast P md l0.toArray Q S ds fuel l a w:=by
 subst hf;simp only[Bool.and_eq_true]at hc;have hlen:((l0.drop i).take c).length=c:=by rw[List.length_take,List.length_drop];omega
 have:=takes_go (md:=md) (ds:=ds) (l':=l') (f:=f) hc.1 hQ hS ((l0.drop i).take c) i l a (fun j hj=>by rw[hlen]at hj;simp[List.getElem?_take,hj]) (by rw[hlen];exact hc.2) h;rwa [hlen]at this
def puresB(md:Region.Mode)(ops:Array Oper)(l':Array Bool):Nat->Nat->Array Bool->Bool
 | 0,_,l=>l==l'
 | c+1,i,l=>Region.free md ops l i&&(Region.ready md ops l).contains i&&puresB md ops l' c (i+1) (l.setIfInBounds i true)
theorem yields_true(h:YieldsIf P ops (fun _=>True) o v a):Yields P ops o v a:=h.imp (fun⟨hw,hv⟩=>⟨hw,fun w=>hv w trivial⟩) id
theorem pures_go{l':Array Bool}{f:Nat}(hsel:Region.noSelect ops=true)(hQ:∀(d:Tmp) (v:Value) c a w,Q (.panic c) (a.put (some d) v) w->Q (.panic c) a w):∀(r:List Oper) (i:Nat) (l:Array Bool) (a:Act),(∀j,j<r.length->r[j]? = ops[i+j]?) -> puresB md ops l' r.length i l=true->TakesL P ops (fun _=>True) (fun a'=>wpAnyLast P md ops Q S ds f l' a' w) r a->wpAnyLast P md ops Q S ds (r.length+f) l a w
 | [],i,l,a,_,hB,h=>by
  have e:l=l':=by simpa[puresB] using hB
  subst e;have h':wpAnyLast P md ops Q S ds f l a w:=h;simpa using h'
 | o :: r,i,l,a,hl,hB,h=>by
  have h0:ops[i]? = some o:=by simpa using(hl 0 s_).symm
  simp only[List.length_cons,puresB,Bool.and_eq_true]at hB;obtain⟨⟨h1,h2⟩,h5⟩:=hB;obtain⟨v,hy,hn⟩:=h;rw[List.length_cons,show r.length+1+f=(r.length+f)+1 by omega];exact wpAnyLast_any h0 (Region.noSelect_spec hsel) (hq_ hQ _ _) _ l a w (Region.free_spec h0 h1) (by simpa using h2) (yields_true hy) (pures_go hsel hQ r (i+1) _ _ (fun j' hj'=>by have:=hl (j'+1) (by simpa using hj');simpa[Nat.add_assoc,Nat.add_comm 1 j'] using this) h5 hn)
theorem pures_{l:Array Bool}(i c f:Nat)(l':Array Bool)(hc:(Region.noSelect l0.toArray&&puresB md l0.toArray l' c i l)=true)(hf:fuel=c+f)(hi:i+c<=l0.length)(hQ:∀(d:Tmp) (v:Value) c a w,Q (.panic c) (a.put (some d) v) w->Q (.panic c) a w)(h:TakesL P l0.toArray (fun _=>True) (fun a'=>wpAnyLast P md l0.toArray Q S ds f l' a' w) ((l0.drop i).take c) a):wpAnyLast P md l0.toArray Q S ds fuel l a w:=by
 subst hf;simp only[Bool.and_eq_true]at hc;have hlen:((l0.drop i).take c).length=c:=by rw[List.length_take,List.length_drop];omega
 have:=pures_go (md:=md) (ds:=ds) (S:=S) (l':=l') (f:=f) (w:=w) hc.1 hQ ((l0.drop i).take c) i l a (fun j hj=>by rw[hlen]at hj;simp[List.getElem?_take,hj]) (by rw[hlen];exact hc.2) h;rwa [hlen]at this
end
section
variable {P:Program} {Q:Exit->Act->World->Prop} {md:Region.Mode} {S:World->Prop} {ds:List Nat} {ops:Array Oper} {l0:List Oper} {l:Array Bool} {a:Act} {w:World} {fuel:Nat}
theorem ts_(i c f:Nat)(l':Array Bool)(hS:S w)(h:TakesL P l0.toArray S (fun a'=>wpAnyLast P md l0.toArray Q S ds f l' a' w) ((l0.drop i).take c) a)(hc:(Region.noSelect l0.toArray&&takesB md l0.toArray ds l' c i l)=true:=by kernel_rfl)(hf:fuel=c+f:=by rfl)(hi:i+c<=l0.length:=by decide)(hQ:∀(d:Tmp) (v:Value) c a w,Q (.panic c) (a.put (some d) v) w->Q (.panic c) a w:=by exact fun _ _ _ _ _ h=>h):wpAnyLast P md l0.toArray Q S ds fuel l a w:=takes_ i c f l' hc hf hi hQ hS h
theorem ps_(i c f:Nat)(l':Array Bool)(h:TakesL P l0.toArray (fun _=>True) (fun a'=>wpAnyLast P md l0.toArray Q S ds f l' a' w) ((l0.drop i).take c) a)(hc:(Region.noSelect l0.toArray&&puresB md l0.toArray l' c i l)=true:=by kernel_rfl)(hf:fuel=c+f:=by rfl)(hi:i+c<=l0.length:=by decide)(hQ:∀(d:Tmp) (v:Value) c a w,Q (.panic c) (a.put (some d) v) w->Q (.panic c) a w:=by exact fun _ _ _ _ _ h=>h):wpAnyLast P md l0.toArray Q S ds fuel l a w:=pures_ i c f l' hc hf hi hQ h
theorem tl_(k:Nat)(h:wpList P l0.toArray Q (l0.drop k) a w)(hc:tailB md l0.toArray ds fuel k l=true:=by kernel_rfl)(hn:(l0.drop k).length=fuel:=by rfl)(hk:k<=l0.length:=by decide):wpAnyLast P md l0.toArray Q S ds fuel l a w:=tail_lit k hc hn hk h
theorem pr_{id:Nat}(m k:Nat)(l:Array Bool)(h:∀w1,w.drew=w1->wpList P l0.toArray (Qn P .any l0.toArray Q k l) (l0.take m) a w1)(hm:P.follows .mixedOrders=true:=by exact mixed)(hn:l0.length=m+k:=by rfl)(hc:preB .any l0.toArray l m=true:=by kernel_rfl):(Code.region id l0.toArray true).wp P Q a w:=pre_region m k l hm hn hc h
theorem tk_{r:List Oper}(ty:TypeId)(x:Operand)(b k:Nat)(cs:List Value)(hS:∀w,S w->w.rangeAt b k cs){d:TypeDesc}(hu:P.underlying ty=some d)(hd:d.isRow=true)(hi:(P.info? ty).map (·.size)=some cs.length){a':Act}(h:TakesL P ops S N r a')(hw:Region.wanted o (yielded ops a.tmps)=true:=by rfl)(ho:o.op=.load ty x:=by rfl)(hx:a.eval x=.pointer (some ⟨b,k,none⟩):=by rfl)(ha:a.put o.dst (.agg cs.toArray)=a':=by(simp only[Act.put,List.setIfInBounds_toArray,List.set_cons_zero,List.set_cons_succ];rfl)):TakesL P ops S N (o :: r) a:=takes_cons (yieldsIf_load_mid hw ty x ho b k hx cs d hS hu hd hi) ha h
end
end Go.Proofs.YtppjnahcnofokaaGreat.T
namespace Go.Proofs.YtppjnahcnofokaaGreat.T
open Go.RowKit Go.Proofs.YtppjnahcnofokaaGreatW.PrintLast
open Go.Proofs.Tryz
variable{k:IntKind}{a:Act}{b i n B base m fuel D B':Nat}{l ch t0:List Int}{w w' w1 w2:World}{t:TypeId}{P:Program}{cs xs vs l3:List Value}{A A':Option Addr}{o oi:Oper}{e s f st fl:Int}{ops:Array Oper}{rest l0:List Oper}{v:Value}{r:Option Nat}{rs rs2:List (Option Addr×Nat×Nat×List Int)}{E:Prop}{ad ai go:List Bool}{N:Act->Prop}{place:Nat->Option (Nat×Nat)}{bad:Bool}{es es':List (Int×List Int)}{T:List TypeId}
theorem vw_trange{k:Int}{t:List Int}(_h:VwOk t ad ch)(hC:Cel w b 45 (vw e t ad k ch)):w.rangeAt b 1 (ints .i64 t):=
 Cel.range (l1:=[.int .i64 e]) (l2:=ints .i64 t) (l3:=bools ad++([.int .i64 k]++ints .u8 ch)) (by simpa[vw] using hC)
theorem vIs_any(e k:Int)(t ch:List Int)(ad:List Bool)(w:World)(h:VwOk t ad ch):Calls prog 147 #[.agg (vw e t ad k ch).toArray] w fun r w'=>(∃b,r=.returned (.bool b))/\Bl w w':=by
 obtain⟨w1,hW⟩:=ex_ (w.alloc (.cells (vw e t ad k ch).toArray 45));have HC:Hid (Cel w1 w.heap.size 45 (vw e t ad k ch)):=by rw[hW];exact Cel.new _ rfl rfl
 have Hb:Hid (Bl w w1):=by rw[hW];exact b0_
 have HV:=hd_ h;have HW:=hd_ hW;have HIT:Hid ((prog.info? 40).map (·.size)=some (ints .i64 t).length):=hi40 h.tree;clear hW h;go_enter func147,ntmps147
 go_wp2_with fail;refine pr_ 19 7 (bt 26 524287) fun w1d hw1d=>?_;refine mG ?_;have h1d:Bl w1 w1d:=by rw[<-hw1d,<- HW.out];exact(Below.refl _ _).drew
 have HB1:=hd_ h1d;have HC1:Hid (Cel w1d w.heap.size 45 (vw e t ad k ch)):=HC.out.below h1d HC.out.lt;have c0:w1d.cell? ⟨w.heap.size,0,none⟩=some (.int .i64 e):=by rw[HC1.out.cell];rfl
 have c40:w1d.cell? ⟨w.heap.size,40,none⟩=some (.int .i64 k):=by rw[HC1.out.cell];exact vw_k HV.out
 clear h1d hw1d;by_cases h1:0<=e
 · by_cases h2:e<=1099511627776
   · go_wp2_with (refine load_g rr 40 (.tmp 12) rr w.heap.size 1 rr (ints .i64 t) _ (vw_trange HV.out HC1.out) underlying40 rfl HIT.out ?_);refine(tIs_any t _ HV.out.tree).mono ?_;rintro _ w4 ⟨⟨q,rfl⟩,hb4⟩;have Hb4:=tb_ HB1 hb4;have c40':w4.cell? ⟨w.heap.size,40,none⟩=some (.int .i64 k):=(hb4.cell (Nat.lt_of_lt_of_le HC.out.lt HB1.out.size)).trans c40;clear c40 c0 hb4
     cases q with
     | false=>
      go_wp2_with fail;refine wpAny_of_last (S:=fun w'=>w'.cell? ⟨w.heap.size,40,none⟩=some (.int .i64 k)/\Hid (Bl w1 w')) (ds:=[23,24,25]) _ _ _ _ ?_;have hH:=And.intro c40' Hb4;refine ts_ 19 4 3 (bt 26 8388607) hH ?_;refine mT2 ?_;refine tl_ 23 ?_;refine mF ?_;go_wp2;go_ret;exact⟨⟨_,rfl⟩,Hb.out.trans (hH.2.out.mono Hb.out.size)⟩
     | true=>
      by_cases h3:1<=k;(· go_wp2_with fail;refine wpAny_of_last (S:=fun w'=>w'.cell? ⟨w.heap.size,40,none⟩=some (.int .i64 k)/\Hid (Bl w1 w')) (ds:=[23,24,25]) _ _ _ _ ?_;have hH:=And.intro c40' Hb4;refine ts_ 19 3 4 (bt 26 4194303) hH ?_;refine mD ?_;(repeat (first|(refine tk_ 45 (.tmp 1) w.heap.size 0 (vw e t ad k ch) (fun _ h=>(HC.out.below h.2.out HC.out.lt).all) underlying45 rfl (vw_hi HV.out) ?_)|(refine uA ?_)|(refine mB2 ?_)));refine takes_nil ?_;refine one_ (i:=22) (N:=some 25) (bt 26 8388607) rfl rfl kk dd (fun K hK=>?_);refine goes_ func151 kk rfl #[.agg (vw e t ad k ch).toArray] rr rfl rfl mL ?_;refine(admins_any e k t ch ad _ HV.out).mono ?_;rintro _ w5 ⟨⟨x,rfl⟩,hb5⟩;refine⟨_,rfl,?_⟩;refine hK.out _ _ ⟨(hb5.cell (Nat.lt_of_lt_of_le HC.out.lt hH.2.out.size)).trans hH.1,hH.2.out.trans (hb5.mono hH.2.out.size)⟩ (fun hH=>?_);clear hK K hb5;refine mN ?_;refine tl_ 23 ?_;refine mF ?_;go_wp2;go_ret;exact⟨⟨_,rfl⟩,Hb.out.trans (hH.2.out.mono Hb.out.size)⟩);go_wp2_with fail;simp only[show decide (1<=k)=false from by simpa using h3];refine wpAny_of_last (S:=fun w'=>w'.cell? ⟨w.heap.size,40,none⟩=some (.int .i64 k)/\Hid (Bl w1 w')) (ds:=[23,24,25]) _ _ _ _ ?_;have hH:=And.intro c40' Hb4;refine ts_ 19 4 3 (bt 26 8388607) hH ?_;refine mT2 ?_;refine tl_ 23 ?_;refine mF ?_;go_wp2;go_ret;exact⟨⟨_,rfl⟩,Hb.out.trans (hH.2.out.mono Hb.out.size)⟩
   go_wp2_with fail;refine wpAny_of_last (S:=fun w'=>w'.cell? ⟨w.heap.size,40,none⟩=some (.int .i64 k)/\Hid (Bl w1 w')) (ds:=[23,24,25]) _ _ _ _ ?_;have hH:=And.intro c40 HB1;refine ts_ 19 4 3 (bt 26 8388607) hH ?_;refine mT2 ?_;refine tl_ 23 ?_;refine mF ?_;go_wp2;go_ret;exact⟨⟨_,rfl⟩,Hb.out.trans (hH.2.out.mono Hb.out.size)⟩
 go_wp2_with fail;refine wpAny_of_last (S:=fun w'=>w'.cell? ⟨w.heap.size,40,none⟩=some (.int .i64 k)/\Hid (Bl w1 w')) (ds:=[23,24,25]) _ _ _ _ ?_;have hH:=And.intro c40 HB1;refine ts_ 19 4 3 (bt 26 8388607) hH ?_;refine mT2 ?_;refine tl_ 23 ?_;refine mF ?_;go_wp2;go_ret;exact⟨⟨_,rfl⟩,Hb.out.trans (hH.2.out.mono Hb.out.size)⟩
end Go.Proofs.YtppjnahcnofokaaGreat.T
namespace Go.Proofs.YtppjnahcnofokaaGreat.T
open Go.RowKit Go.Proofs.YtppjnahcnofokaaGreatW.PrintLast
open Go.Proofs.Tryz
variable{k:IntKind}{a:Act}{b i n B base m fuel D B':Nat}{l ch t0:List Int}{w w' w1 w2:World}{t:TypeId}{P:Program}{cs xs vs l3:List Value}{A A':Option Addr}{o oi:Oper}{e s f st fl:Int}{ops:Array Oper}{rest l0:List Oper}{v:Value}{r:Option Nat}{rs rs2:List (Option Addr×Nat×Nat×List Int)}{E:Prop}{ad ai go:List Bool}{N:Act->Prop}{place:Nat->Option (Nat×Nat)}{bad:Bool}{es es':List (Int×List Int)}{T:List TypeId}
def opv(a b c d e:Int):Value:=.agg #[.int .i64 a,.int .i64 b,.int .i64 c,.int .i64 d,.int .i64 e]
def IsB(r:Ending):Prop:=∃b,r=.returned (.bool b)
theorem isOp_any(a b c d e:Int)(w:World):Calls prog 146 #[opv a b c d e] w fun r w'=>IsB r/\Bl w w':=by
 unfold opv;go_enter func146,ntmps146
 go_wp2
 all_goals
  go_ret
  exact⟨⟨_,rfl⟩,b0_⟩
theorem odd_any(a b c d e:Int)(w:World):Calls prog 145 #[opv a b c d e] w fun r w'=>IsB r/\Bl w w':=by
 unfold opv;go_enter func145,ntmps145
 go_wp2_with fail;refine(isOp_any a b c d e _).mono ?_;rintro _ w4 ⟨⟨q,rfl⟩,hb4⟩;have HB4:Hid (Bl w w4):=(bal (o:=.cells #[.int .i64 a,.int .i64 b,.int .i64 c,.int .i64 d,.int .i64 e] 55) (Below.refl w.heap.size w)).trans (hb4.mono s_);clear hb4;go_wp2_with fail;go_ret;exact⟨⟨_,rfl⟩,HB4.out⟩
def OpsR(w:World)(A:Option Addr)(n c:Nat)(l:List Int):Prop:=Rg w 5 A n c (ints .i64 l)
theorem OpsR.below{c:Nat}(h:OpsR w A n c l)(hb:Bl w w'):OpsR w' A n c l:=Rg.below h hb
theorem OpsR.at{c:Nat}(h:OpsR w A n c l)(i:Nat)(hi:i<n):∃b o x0 x1 x2 x3 x4,A=some ⟨b,o,none⟩/\b<w.heap.size/\w.cell? ⟨b,o+i*5,none⟩=some (.int .i64 x0)/\w.cell? ⟨b,o+i*5+1,none⟩=some (.int .i64 x1)/\w.cell? ⟨b,o+i*5+2,none⟩=some (.int .i64 x2)/\w.cell? ⟨b,o+i*5+3,none⟩=some (.int .i64 x3)/\w.cell? ⟨b,o+i*5+4,none⟩=some (.int .i64 x4):=by
 have hcap:=h.cap;have hlen:=h.len;rw[ints_len]at hlen;obtain⟨b,o,e,hlt,hr⟩:=h.at_ o_;have hc:∀j,j<5->∃x,w.cell? ⟨b,o+(i*5+j),none⟩=some (.int .i64 x):=fun j hj=>
  ⟨_,hr (i*5+j) _ (ints_get (List.getElem?_eq_getElem o_))⟩
 obtain⟨x0,h0⟩:=hc 0 o_;obtain⟨x1,h1⟩:=hc 1 o_;obtain⟨x2,h2⟩:=hc 2 o_;obtain⟨x3,h3⟩:=hc 3 o_;obtain⟨x4,h4⟩:=hc 4 o_;exact⟨b,o,x0,x1,x2,x3,x4,e,hlt,h0,h1,h2,h3,h4⟩
theorem idxOps_any(A:Option Addr)(n c:Nat)(l:List Int)(w:World)(hr:OpsR w A n c l)(hn:n<2 ^ 60):Calls prog 190 #[.slice A n c,.func (.func 145) #[] #[]] w fun r w'=>(∃x,r=.returned (.int .i64 x))/\Bl w w':=by
 have HR:=hd_ hr;clear hr;go_enter func190,ntmps190
 go_wp2_with fail;go_loopw [8] (fun v wr=>∃i:Nat,v=.int .i64 i/\i<=n/\Hid (Bl w wr)) (fun v _=>n-(intOf v).toNat)
 case atStart=>exact⟨0,rfl,by omega,Below.refl _ _⟩
 case round=>
  obtain⟨i,rfl,hi,hb⟩:=hrel;by_cases hlt:i<n
  · obtain⟨b,o,x0,x1,x2,x3,x4,rfl,_,c0,c1,c2,c3,c4⟩:=(HR.out.below hb.out).at i hlt;have hcap:=HR.out.cap;go_wp2_with fail;refine(odd_any x0 x1 x2 x3 x4 _).mono ?_;rintro _ w4 ⟨⟨q,rfl⟩,hb4⟩;have Hb4:=tb_ hb hb4;clear hb4 c0 c1 c2 c3 c4
    cases q with
    | true=>
     go_wp2_with fail;go_ret;exact⟨⟨_,rfl⟩,Hb4.out⟩
    | false=>
     go_wp2_with fail;go_roundw;(case rel=>exact⟨i+1,by go_num,by omega,Hb4⟩);case measure=>simp[intOf];omega
  go_wp2_with fail;go_ret;exact⟨⟨_,rfl⟩,hb.out⟩
theorem hasOps_any(A:Option Addr)(n c:Nat)(l:List Int)(w:World)(hr:OpsR w A n c l)(hn:n<2 ^ 60):Calls prog 148 #[.slice A n c,.func (.func 145) #[] #[]] w fun r w'=>IsB r/\Bl w w':=by
 go_enter func148,ntmps148
 go_wp2_with fail;refine(idxOps_any A n c l w hr hn).mono ?_;rintro _ w4 ⟨⟨q,rfl⟩,hb4⟩;go_wp2_with fail;go_ret;exact⟨⟨_,rfl⟩,hb4⟩
def LeafR(w:World)(A:Option Addr)(n c:Nat)(l:List Int):Prop:=Rg w 2 A n c (ints .i64 l)
theorem LeafR.below{c:Nat}(h:LeafR w A n c l)(hb:Bl w w'):LeafR w' A n c l:=Rg.below h hb
theorem LeafR.at{c:Nat}(h:LeafR w A n c l)(i:Nat)(hi:i<n):∃b o x0 x1,A=some ⟨b,o,none⟩/\b<w.heap.size/\w.cell? ⟨b,o+i*2,none⟩=some (.int .i64 x0)/\w.cell? ⟨b,o+i*2+1,none⟩=some (.int .i64 x1):=by
 have hcap:=h.cap;have hlen:=h.len;rw[ints_len]at hlen;obtain⟨b,o,e,hlt,hr⟩:=h.at_ o_;have hc:∀j,j<2->∃x,w.cell? ⟨b,o+(i*2+j),none⟩=some (.int .i64 x):=fun j hj=>
  ⟨_,hr (i*2+j) _ (ints_get (List.getElem?_eq_getElem o_))⟩
 obtain⟨x0,h0⟩:=hc 0 o_;obtain⟨x1,h1⟩:=hc 1 o_;exact⟨b,o,x0,x1,e,hlt,h0,h1⟩
theorem same_any(x y z:Int)(p:Addr)(w:World)(hp:p.block<w.heap.size)(hs:p.spot=none)(hc:w.cell? p=some (.int .i64 z)):Calls prog 210 #[.agg #[.int .i64 x,.int .i64 y],.pointer (some p)] w fun r w'=>IsB r/\Bl w w':=by
 obtain⟨b,o,sp⟩:=p;have hs':sp=none:=hs;subst hs';have hc2:(w.alloc (.cells #[.int .i64 x,.int .i64 y] 36)).cell? ⟨b,o,none⟩=some (.int .i64 z):=((b0_:Bl w _).cell hp).trans hc;clear hc;go_enter func210,ntmps210
 go_wp2_with fail;go_ret;exact⟨⟨_,rfl⟩,b0_⟩
theorem idxLeaf_any(A:Option Addr)(n c:Nat)(l:List Int)(z:Int)(p:Addr)(w:World)(hr:LeafR w A n c l)(hn:n<2 ^ 60)(hp:p.block<w.heap.size)(hs:p.spot=none)(hc:w.cell? p=some (.int .i64 z)):Calls prog 217 #[.slice A n c,.func (.func 210) #[] #[.pointer (some p)]] w fun r w'=>(∃x,r=.returned (.int .i64 x))/\Bl w w':=by
 have HR:=hd_ hr;have HC:=hd_ hc;clear hr hc;go_enter func217,ntmps217
 go_wp2_with fail;go_loopw [8] (fun v wr=>∃i:Nat,v=.int .i64 i/\i<=n/\Hid (Bl w wr)) (fun v _=>n-(intOf v).toNat)
 case atStart=>exact⟨0,rfl,by omega,Below.refl _ _⟩
 case round=>
  obtain⟨i,rfl,hi,hb⟩:=hrel;by_cases hlt:i<n
  · obtain⟨b,o,x0,x1,rfl,_,c0,c1⟩:=(HR.out.below hb.out).at i hlt;have hcap:=HR.out.cap;go_wp2_with fail;refine(same_any x0 x1 z p _ (Nat.lt_of_lt_of_le hp hb.out.size) hs ((hb.out.cell hp).trans HC.out)).mono ?_;rintro _ w4 ⟨⟨q,rfl⟩,hb4⟩;have Hb4:=tb_ hb hb4;clear hb4 c0 c1
    cases q with
    | true=>
     go_wp2_with fail;go_ret;exact⟨⟨_,rfl⟩,Hb4.out⟩
    | false=>
     go_wp2_with fail;go_roundw;(case rel=>exact⟨i+1,by go_num,by omega,Hb4⟩);case measure=>simp[intOf];omega
  go_wp2_with fail;go_ret;exact⟨⟨_,rfl⟩,hb.out⟩
theorem hasLeaf_any(A:Option Addr)(n c:Nat)(l:List Int)(z:Int)(p:Addr)(w:World)(hr:LeafR w A n c l)(hn:n<2 ^ 60)(hp:p.block<w.heap.size)(hs:p.spot=none)(hc:w.cell? p=some (.int .i64 z)):Calls prog 211 #[.slice A n c,.func (.func 210) #[] #[.pointer (some p)]] w fun r w'=>IsB r/\Bl w w':=by
 go_enter func211,ntmps211
 go_wp2_with fail;refine(idxLeaf_any A n c l z p w hr hn hp hs hc).mono ?_;rintro _ w4 ⟨⟨q,rfl⟩,hb4⟩;go_wp2_with fail;go_ret;exact⟨⟨_,rfl⟩,hb4⟩
theorem findLeaf_any(A:Option Addr)(n c:Nat)(l:List Int)(x y:Int)(w:World)(hr:LeafR w A n c l)(hn:n<2 ^ 60):Calls prog 212 #[.slice A n c,.agg #[.int .i64 x,.int .i64 y]] w fun r w'=>(∃z:Int,r=.returned (.int .i64 z)/\(0<=z->z<n))/\Bl w w':=by
 have HR:=hd_ hr;clear hr;go_enter func212,ntmps212
 go_wp2_with fail;go_loopw [8] (fun v wr=>∃i:Nat,v=.int .i64 i/\i<=n/\Hid (Bl w wr)/\wr.cell? ⟨w.heap.size,0,none⟩=some (.int .i64 x)/\wr.cell? ⟨w.heap.size,1,none⟩=some (.int .i64 y)) (fun v _=>n-(intOf v).toNat)
 case atStart=>exact⟨0,rfl,by omega,b0_,by simp,by simp⟩
 case round=>
  obtain⟨i,rfl,hi,hb,d0,d1⟩:=hrel;by_cases hlt:i<n
  · obtain⟨b,o,x0,x1,rfl,_,c0,c1⟩:=(HR.out.below hb.out).at i hlt;have hcap:=HR.out.cap;go_wp2_with fail;refine still_tail 5 mixed kk (fun W4 hW4=>?_);refine mD ?_;(have hd:∀a,wr.cell? a=W4.cell? a:=fun a=>by rw[<-hW4];rfl);(have HB4:Hid (Bl w W4):=by rw[<-hW4];exact hb.out.drew);have D0:Hid (W4.cell? ⟨w.heap.size,0,none⟩=some (.int .i64 x)):=(hd _).symm.trans d0;have D1:Hid (W4.cell? ⟨w.heap.size,1,none⟩=some (.int .i64 y)):=(hd _).symm.trans d1;have e0:=D0.out;have e1:=D1.out;rw[hd]at c0 c1;clear hd hW4 d0 d1;(repeat still_step);refine wpStill_nil ?_;by_cases hx:x=x0;(· subst hx;by_cases hy:y=x1;(· subst hy;go_wp2;go_ret;exact⟨⟨_,rfl,by omega⟩,HB4.out⟩);go_wp2;go_roundw;(case rel=>exact⟨i+1,by go_num,by omega,HB4,D0.out,D1.out⟩);case measure=>simp[intOf];omega);go_wp2;go_roundw;(case rel=>exact⟨i+1,by go_num,by omega,HB4,D0.out,D1.out⟩);case measure=>simp[intOf];omega
  go_wp2_with fail;go_ret;exact⟨⟨_,rfl,by omega⟩,hb.out⟩
end Go.Proofs.YtppjnahcnofokaaGreat.T
namespace Go.Proofs.YtppjnahcnofokaaGreat.T
open Go.RowKit Go.Proofs.YtppjnahcnofokaaGreatW.PrintLast
open Go.Proofs.Tryz
variable{k:IntKind}{a:Act}{b i n B base m fuel D B':Nat}{l ch t0:List Int}{w w' w1 w2:World}{t:TypeId}{P:Program}{cs xs vs l3:List Value}{A A':Option Addr}{o oi:Oper}{e s f st fl:Int}{ops:Array Oper}{rest l0:List Oper}{v:Value}{r:Option Nat}{rs rs2:List (Option Addr×Nat×Nat×List Int)}{E:Prop}{ad ai go:List Bool}{N:Act->Prop}{place:Nat->Option (Nat×Nat)}{bad:Bool}{es es':List (Int×List Int)}{T:List TypeId}
def chg(e:Int)(t:List Int)(ad:List Bool)(k:Int)(ch:List Int)(f:Int)(ai go:List Bool):List Value:=vw e t ad k ch++([.int .i64 f]++(bools ai++bools go))
structure ChOk (t:List Int) (ad:List Bool) (ch:List Int) (ai go:List Bool):Prop where
 vw:VwOk t ad ch
 ai:ai.length=8
 go:go.length=8
theorem bools_set(l:List Bool)(i:Nat)(q:Bool):(bools l).set i (.bool q)=bools (l.set i q):=by simp[bools,List.map_set]
theorem vw_set_admin{k:Int}{t:List Int}(h:VwOk t ad ch)(i:Nat)(hi:i<8)(q:Bool):(vw e t ad k ch).set (32+i) (.bool q)=vw e t (ad.set i q) k ch:=by
 unfold vw;have h1:=h.tree;have h2:=h.admins;rw[List.set_append_right _ _ s1_,List.set_append_right _ _ (by simp[ints_len];omega),List.set_append_left _ _ (by simp[ints_len,bools_len];omega),show 32+i - [Value.int IntKind.i64 e].length-(ints .i64 t).length=i by simp[ints_len];omega,bools_set]
theorem vw_set_k{k:Int}{t:List Int}(h:VwOk t ad ch)(x:Int):(vw e t ad k ch).set 40 (.int .i64 x)=vw e t ad x ch:=by
 unfold vw;rw[List.set_append_right _ _ s_,List.set_append_right _ _ (by simp[ints_len,h.tree]),List.set_append_right _ _ (by simp[ints_len,bools_len,h.tree,h.admins]),List.set_append_left _ _ (by simp[ints_len,bools_len,h.tree,h.admins])];simp[ints_len,bools_len,h.tree,h.admins]
theorem chg_set_admin{k:Int}{t:List Int}(h:ChOk t ad ch ai go)(i:Nat)(hi:i<8)(q:Bool):(chg e t ad k ch f ai go).set (32+i) (.bool q)=chg e t (ad.set i q) k ch f ai go:=by
 unfold chg;rw[List.set_append_left _ _ (by rw[vw_len h.vw];omega),vw_set_admin h.vw i hi]
theorem chg_set_k{k:Int}{t:List Int}(h:ChOk t ad ch ai go)(x:Int):(chg e t ad k ch f ai go).set 40 (.int .i64 x)=chg e t ad x ch f ai go:=by
 unfold chg;rw[List.set_append_left _ _ (by rw[vw_len h.vw];omega),vw_set_k h.vw]
theorem chg_set_ai{k:Int}{t:List Int}(h:ChOk t ad ch ai go)(i:Nat)(hi:i<8)(q:Bool):(chg e t ad k ch f ai go).set (74+i) (.bool q)=chg e t ad k ch f (ai.set i q) go:=by
 unfold chg;rw[List.set_append_right _ _ (by rw[vw_len h.vw];omega),List.set_append_right _ _ (by rw[vw_len h.vw];simp;omega),List.set_append_left _ _ (by rw[vw_len h.vw];simp[bools_len,h.ai];omega),vw_len h.vw,show 74+i-73 - [Value.int IntKind.i64 f].length=i by simp;omega,bools_set]
theorem chg_set_go{k:Int}{t:List Int}(h:ChOk t ad ch ai go)(i:Nat)(hi:i<8)(q:Bool):(chg e t ad k ch f ai go).set (82+i) (.bool q)=chg e t ad k ch f ai (go.set i q):=by
 unfold chg;rw[List.set_append_right _ _ (by rw[vw_len h.vw];omega),List.set_append_right _ _ (by rw[vw_len h.vw];simp;omega),List.set_append_right _ _ (by rw[vw_len h.vw];simp[bools_len,h.ai];omega),vw_len h.vw,show 82+i-73 - [Value.int IntKind.i64 f].length-(bools ai).length=i by simp[bools_len,h.ai];omega,bools_set]
theorem chg_admin{k:Int}{t:List Int}(h:ChOk t ad ch ai go)(i:Nat)(hi:i<8):(chg e t ad k ch f ai go)[32+i]? = some (.bool (ad.getD i false)):=by
 unfold chg;rw[List.getElem?_append_left (by rw[vw_len h.vw];omega),vw_admin h.vw i hi]
theorem chg_k{k:Int}{t:List Int}(h:ChOk t ad ch ai go):(chg e t ad k ch f ai go)[40]? = some (.int .i64 k):=by
 unfold chg;rw[List.getElem?_append_left (by rw[vw_len h.vw];omega),vw_k h.vw]
theorem chg_from{k:Int}{t:List Int}(h:ChOk t ad ch ai go):(chg e t ad k ch f ai go)[73]? = some (.int .i64 f):=by
 unfold chg;rw[List.getElem?_append_right (by rw[vw_len h.vw];omega),vw_len h.vw];rfl
theorem chg_ai{k:Int}{t:List Int}(h:ChOk t ad ch ai go)(i:Nat)(hi:i<8):(chg e t ad k ch f ai go)[74+i]? = some (.bool (ai.getD i false)):=by
 have h2:=h.ai;unfold chg;rw[List.getElem?_append_right (by rw[vw_len h.vw];omega),List.getElem?_append_right (by rw[vw_len h.vw];simp;omega),List.getElem?_append_left (by rw[vw_len h.vw];simp[bools_len,h.ai];omega),vw_len h.vw,show 74+i-73 - [Value.int IntKind.i64 f].length=i by simp;omega,bools,List.getElem?_map,List.getElem?_eq_getElem o_];simp[List.getElem?_eq_getElem (show i<ai.length by omega)]
theorem chg_go{k:Int}{t:List Int}(h:ChOk t ad ch ai go)(i:Nat)(hi:i<8):(chg e t ad k ch f ai go)[82+i]? = some (.bool (go.getD i false)):=by
 have h2:=h.go;unfold chg;rw[List.getElem?_append_right (by rw[vw_len h.vw];omega),List.getElem?_append_right (by rw[vw_len h.vw];simp;omega),List.getElem?_append_right (by rw[vw_len h.vw];simp[bools_len,h.ai];omega),vw_len h.vw,show 82+i-73 - [Value.int IntKind.i64 f].length-(bools ai).length=i by simp[bools_len,h.ai];omega,bools,List.getElem?_map,List.getElem?_eq_getElem o_];simp[List.getElem?_eq_getElem (show i<go.length by omega)]
theorem chg_view{g:Nat}{k:Int}{t:List Int}(h:Cel w g 224 (chg e t ad k ch f ai go)):w.rangeAt g 0 (vw e t ad k ch):=Cel.range (l1:=[]) (l2:=vw e t ad k ch) (l3:=[.int .i64 f]++(bools ai++bools go)) (by simpa[chg] using h)
theorem chg_tree{g:Nat}{k:Int}{t:List Int}(h:Cel w g 224 (chg e t ad k ch f ai go)):w.rangeAt g 1 (ints .i64 t):=Cel.range (l1:=[.int .i64 e]) (l2:=ints .i64 t) (l3:=(bools ad++([.int .i64 k]++ints .u8 ch))++([.int .i64 f]++(bools ai++bools go))) (by simpa[chg,vw] using h)
theorem chg_leaves{g:Nat}{k:Int}{t:List Int}(h:Cel w g 224 (chg e t ad k ch f ai go))(ht:t.length=31):LeafR w (some ⟨g,1,none⟩) 8 8 (t.take 16):=
 ⟨by rw[ints_len,List.length_take,ht];rfl,Nat.le_refl _,fun _=>⟨g,1,rfl,h.lt,range_take (chg_tree h) 16⟩⟩
theorem chg_split{g:Nat}{k:Int}{t:List Int}(h:Cel w g 224 (chg e t ad k ch f ai go)):Cel w g 224 ([.int .i64 e]++ints .i64 t++((bools ad++([.int .i64 k]++ints .u8 ch))++([.int .i64 f]++(bools ai++bools go)))):=by simpa[chg,vw] using h
theorem chg_join{g:Nat}{k:Int}{t:List Int}(h:Cel w g 224 ([.int .i64 e]++ints .i64 t++((bools ad++([.int .i64 k]++ints .u8 ch))++([.int .i64 f]++(bools ai++bools go))))):Cel w g 224 (chg e t ad k ch f ai go):=by simpa[chg,vw] using h
theorem grownBy_tr{a:World}{row:Option Nat}(h:a.grownBy w row)(k:w.grownBy w' row):a.grownBy w' row:=
 ⟨k.os.trans h.os,k.tape.trans h.tape,k.output.trans h.output,Nat.le_trans h.size k.size,fun j hj hne=>(k.block j (Nat.lt_of_lt_of_le hj h.size) hne).trans (h.block j hj hne)⟩
theorem grownBy_of{row:Option Nat}(h:Bl w w'):w.grownBy w' row:=⟨h.os,h.tape,h.output,h.size,fun k hk _=>h.block k hk⟩
theorem grownBy_set1(w:World)(g i:Nat)(v:Value):w.grownBy (w.setCell ⟨g,i,none⟩ v) (some g):=
 ⟨rfl,rfl,rfl,by simp,fun k _ hne=>Below.heap_setCell _ _ _ _ (fun e=>hne (by rw[e]))⟩
end Go.Proofs.YtppjnahcnofokaaGreat.T
namespace Go.Proofs.YtppjnahcnofokaaGreat.T
open Go.RowKit Go.Proofs.YtppjnahcnofokaaGreatW.PrintLast
open Go.Proofs.Tryz
variable{k:IntKind}{a:Act}{b i n B base m fuel D B':Nat}{l ch t0:List Int}{w w' w1 w2:World}{t:TypeId}{P:Program}{cs xs vs l3:List Value}{A A':Option Addr}{o oi:Oper}{e s f st fl:Int}{ops:Array Oper}{rest l0:List Oper}{v:Value}{r:Option Nat}{rs rs2:List (Option Addr×Nat×Nat×List Int)}{E:Prop}{ad ai go:List Bool}{N:Act->Prop}{place:Nat->Option (Nat×Nat)}{bad:Bool}{es es':List (Int×List Int)}{T:List TypeId}
theorem grownBy_drew'{row:Option Nat}(h:w.grownBy w' row):w.grownBy w'.drew row:=⟨h.os,h.tape,h.output,h.size,h.block⟩
end Go.Proofs.YtppjnahcnofokaaGreat.T
namespace Go.Proofs.YtppjnahcnofokaaGreat.T
open Go.RowKit Go.Proofs.YtppjnahcnofokaaGreatW.PrintLast
open Go.Proofs.Tryz
variable{k:IntKind}{a:Act}{b i n B base m fuel D B':Nat}{l ch t0:List Int}{w w' w1 w2:World}{t:TypeId}{P:Program}{cs xs vs l3:List Value}{A A':Option Addr}{o oi:Oper}{e s f st fl:Int}{ops:Array Oper}{rest l0:List Oper}{v:Value}{r:Option Nat}{rs rs2:List (Option Addr×Nat×Nat×List Int)}{E:Prop}{ad ai go:List Bool}{N:Act->Prop}{place:Nat->Option (Nat×Nat)}{bad:Bool}{es es':List (Int×List Int)}{T:List TypeId}
end Go.Proofs.YtppjnahcnofokaaGreat.T
namespace Go.Proofs.YtppjnahcnofokaaGreat.T
open Go.RowKit Go.Proofs.YtppjnahcnofokaaGreatW.PrintLast
open Go.Proofs.Tryz
variable{k:IntKind}{a:Act}{b i n B base m fuel D B':Nat}{l ch t0:List Int}{w w' w1 w2:World}{t:TypeId}{P:Program}{cs xs vs l3:List Value}{A A':Option Addr}{o oi:Oper}{e s f st fl:Int}{ops:Array Oper}{rest l0:List Oper}{v:Value}{r:Option Nat}{rs rs2:List (Option Addr×Nat×Nat×List Int)}{E:Prop}{ad ai go:List Bool}{N:Act->Prop}{place:Nat->Option (Nat×Nat)}{bad:Bool}{es es':List (Int×List Int)}{T:List TypeId}
def OwnR(w:World)(n:Nat)(r:Ending)(w':World):Prop:=∃A c,r=.returned (.slice A n c)/\OwnB w' w.heap.size (.slice A n c) n
theorem vOps_any(A:Option Addr)(n c:Nat)(l:List Int)(w:World)(hr:OpsR w A n c l)(hn:n<=1000):Calls prog 98 #[.slice A n c] w fun r w'=>OwnR w (n*40) r w'/\Bl w w':=by
 have HR:=hd_ hr;clear hr;go_enter func98,ntmps98
 go_wp2_with fail;go_loopw [3,10] (fun vx v wr=>∃(i m:Nat) (A3:Option Addr) (c3:Nat),v=.int .i64 i/\vx=.slice A3 m c3/\i<=n/\m=i*40/\Hid (OwnB wr w.heap.size (.slice A3 m c3) m)/\Hid (Bl w wr)) (fun _ v _=>n-(intOf v).toNat)
 case atStart=>exact⟨0,0,none,0,rfl,rfl,Nat.zero_le _,rfl,OwnB.nil _ _,Below.refl _ _⟩
 case round=>
  obtain⟨wa,rfl⟩:=ex_ (wr);obtain⟨i,m,A3,c3,rfl,rfl,hi,hm,hO,hb⟩:=hrel;have HM:=hd_ hm;clear hm;by_cases hlt:i<n
  · obtain⟨b,o,x0,x1,x2,x3,x4,rfl,_,k0,k1,k2,k3,k4⟩:=(HR.out.below hb.out).at i hlt;have hcap:=HR.out.cap;go_wp2_with fail;obtain⟨w1,hW⟩:=ex_ ((wa.alloc (.cells #[.int .i64 x0,.int .i64 x1,.int .i64 x2,.int .i64 x3,.int .i64 x4] 55)).alloc (.cells #[.int .i64 x0,.int .i64 x1,.int .i64 x2,.int .i64 x3,.int .i64 x4] 3));(have HB:Hid (Blk w1 (wa.heap.size+1) .i64 3 [x0,x1,x2,x3,x4]):=by rw[hW];exact blk_new _ .i64 3 [x0,x1,x2,x3,x4] _ s_);(have hb1:Bl wa w1:=by rw[hW];exact bal b0_);have HO1:Hid (OwnB w1 w.heap.size (.slice A3 m c3) m):=hO.out.below hb1;(have HN:Hid ((Value.slice A3 m c3).ownBlock≠some (wa.heap.size+1)):=by obtain⟨l0,_,ho⟩:=hO.out;exact fun e=>by have:=(ho.lt _ e).2;omega);have Hb1:=tb_ hb hb1;have HW:=hd_ hW;clear hW hb1 k0 k1 k2 k3 k4;(go_loopw [3,28] (fun vx v wr2=>∃(j m2:Nat) (A3:Option Addr) (c3:Nat),v=.int .i64 j/\vx=.slice A3 m2 c3/\j<=5/\m2=i*40+j*8/\Hid (OwnB wr2 w.heap.size (.slice A3 m2 c3) m2)/\Hid (Bl w wr2)/\Hid (Blk wr2 (wa.heap.size+1) .i64 3 [x0,x1,x2,x3,x4])/\Hid ((Value.slice A3 m2 c3).ownBlock≠some (wa.heap.size+1))) (fun _ v _=>5-(intOf v).toNat));(case atStart=>rw[<-HW.out];exact⟨0,m,A3,c3,rfl,rfl,Nat.zero_le _,HM.out,HO1,Hb1,HB,HN⟩);case round=>
     clear HM HB HO1 HN Hb1 HW hO hb;obtain⟨j,m2,A3,c3,rfl,rfl,hj,hm2,hO,hb,HB,HN⟩:=hrel;have HM2:=hd_ hm2;(have hm2b:m2<=40040:=by omega);clear hm2;by_cases hlj:j<5;(· obtain⟨y,hy⟩:∃y,wr.cell? ⟨wa.heap.size+1,j,none⟩=some (.int .i64 y):=⟨_,HB.out.cell (List.getElem?_eq_getElem (by show j<5;omega))⟩;have HN0:=HN;go_wp2_with fail;refine(num_any y wr).mono ?_;rintro _ w4 ⟨⟨A4,c4,l4,rfl,ho4,hl4⟩,hb4⟩;have HR4:Hid (Rd w4 .u8 A4 8 c4 l4):=rd_own ho4 hl4;obtain⟨l3,hl3,hO3⟩:=hO.out.below hb4;have HO3:=hd_ hO3;have HL3:=hd_ hl3;have HB4:=hd_ (HB.out.below hb4 HB.out.lt);have Hb4:=tb_ hb hb4;clear hb4 ho4 hl4 hO3 hl3 hy;go_wp2_with (at_builtin;refine append_rg rfl (.tmp 32) (.tmp 34) 31 rfl w.heap.size 5 1 1 et31 (.slice A3 m2 c3) m2 (ints .u8 l3) rfl HO3.out A4 8 c4 (ints .u8 l4) rfl HR4.out.rg ints_one o_ (by unfold maxLen;omega) Hb4.out.size ?_;intro A7 c7 w7 hown7 hgrow hb7 hat);have HO7:Hid (OwnB w7 w.heap.size (.slice A7 (m2+8) c7) (m2+8)):=OwnB.app HL3.out HR4.out.len hown7;have HB7:Hid (Blk w7 (wa.heap.size+1) .i64 3 [x0,x1,x2,x3,x4]):=Cel.blk (HB4.out.cel.grown hgrow (fun e=>HN.out e.symm));(have HN7:Hid ((Value.slice A7 (m2+8) c7).ownBlock≠some (wa.heap.size+1)):=by have hlt:=HB4.out.lt;(rcases hat with e|e);(· show _≠_;rw[e];exact HN.out);show _≠_;rw[e];intro e';injection e' with e';omega);have Hb7:=hd_ (Hb4.out.trans hb7);clear hown7 hgrow hb7 hat;go_wp2_with fail;go_roundw;(case rel=>exact⟨j+1,m2+8,A7,c7,by go_num,rfl,by omega,by have:=HM2.out;omega,HO7,Hb7,HB7,HN7⟩);case measure=>simp[intOf];omega);(have hm:m2=(i+1)*40:=by have:=HM2.out;omega);have HMi:=hd_ hm;clear hm;go_wp2_with fail;exact⟨⟨i+1,m2,A3,c3,by go_num,rfl,by omega,HMi.out,hO,hb⟩,by simp[intOf];omega⟩
  go_wp2_with fail;go_ret;have e:n*40=m:=by have:=HM.out;omega
  rw[e];exact⟨⟨_,_,rfl,hO.out⟩,hb.out⟩
end Go.Proofs.YtppjnahcnofokaaGreat.T
