import Derived.Test.YtppjnahcnofokaaGreatN0
import Derived.Test.YtppjnahcnofokaaGreatN3
import Derived.Test.YtppjnahcnofokaaGreatN13
import Derived.Test.YtppjnahcnofokaaGreatRows
set_option maxRecDepth 100000
set_option maxHeartbeats 32000000
set_option linter.unusedSimpArgs false
set_option linter.unnecessarySimpa false
set_option linter.unusedVariables false
namespace Go.Proofs.YtppjnahcnofokaaGreat.T
open Go.RowKit Go.Proofs.YtppjnahcnofokaaGreatW.PrintLast
open Go.Proofs.Tryz
variable{k:IntKind}{a:Act}{b i n B base m fuel D B':Nat}{l ch t0:List Int}{w w' w1 w2:World}{t:TypeId}{P:Program}{cs xs vs l3:List Value}{A A':Option Addr}{o oi:Oper}{e s f st fl:Int}{ops:Array Oper}{rest l0:List Oper}{v:Value}{r:Option Nat}{rs rs2:List (Option Addr×Nat×Nat×List Int)}{E:Prop}{ad ai go:List Bool}{N:Act->Prop}{place:Nat->Option (Nat×Nat)}{bad:Bool}{es es':List (Int×List Int)}{T:List TypeId}
structure ActsR (W:World) (A:Option Addr) (n c:Nat) (x:Nat->AcP):Prop where
 cap:n<=c
 at_:0<n->∃b o,A=some ⟨b,o,none⟩/\b<W.heap.size/\∀i,i<n->W.rangeAt b (o+i*7) (acC (x i))
 ops:∀i,i<n->OpsR W (x i).A (x i).nA (x i).cA (x i).lA
 nA:∀i,i<n->(x i).nA<=140737488355328
 opsLo:∀i,i<n->LowA (x i).A (x i).cA W.heap.size
 byt:∀i,i<n->Rd W .u8 (x i).Y (x i).nY (x i).cY (x i).lY
 nY:∀i,i<n->(x i).nY<=140737488355328
 bytLo:∀i,i<n->LowA (x i).Y (x i).cY W.heap.size
theorem ActsR.ok{W:World}{c:Nat}{x:Nat->AcP}(h:ActsR W A n c x)(hi:i<n)(h1:(x i).nA<=1000)(h2:(x i).nY<=1000000):AcOk W W.heap.size (x i) where
 ops:=h.ops i hi
 nA:=h1
 opsLo:=h.opsLo i hi
 byt:=h.byt i hi
 nY:=h2
 bytLo:=h.bytLo i hi
def AqR(n:Nat)(x:Nat->AcP)(r:Ending):Prop:=∃q,r=.returned (.bool q)/\(q=true->∀i,i<n->i<45->(x i).nA<=1000/\(x i).nY<=1000000)
theorem actsOk_any(w:World)(A:Option Addr)(n c:Nat)(x:Nat->AcP)(h:ActsR w A n c x):Calls prog 6 #[.slice A n c] w fun r w'=>AqR n x r/\Bl w w':=by
 have H:=hd_ h;clear h;go_enter func6,ntmps6
 go_wp2_with fail;go_loopw [3,4] (fun vs v wr=>∃(i s:Nat),vs=.int .i64 s/\v=.int .i64 i/\i<=45/\s<=500/\Hid (i<=n)/\Hid (∀k,k<i->(x k).nA<=1000/\(x k).nY<=1000000)/\Hid (Bl w wr)) (fun _ v _=>45-(intOf v).toNat)
 case atStart=>exact⟨0,0,rfl,rfl,by omega,by omega,hd_ (Nat.zero_le _),hd_ (fun k hk=>absurd hk (Nat.not_lt_zero _)),hd_ (Below.refl _ _)⟩
 case round=>
  obtain⟨wa,rfl⟩:=ex_ (wr);obtain⟨i,s,rfl,rfl,hi,hs,HI,HB,HW⟩:=hrel;by_cases hlt:i<n;rotate_left
  · (obtain rfl:i=n:=by have:=HI.out;omega);go_wp2_with fail;exact bodyPost_ret (v:=.bool true) (by simp[results,results6,asAddr,Act.put]) rfl ⟨⟨true,rfl,fun _ k hk _=>HB.out k hk⟩,HW.out⟩
  by_cases h45:i<45;rotate_left
  · (obtain rfl:i=45:=by omega);go_wp2_with fail;exact bodyPost_ret (v:=.bool true) (by simp[results,results6,asAddr,Act.put]) rfl ⟨⟨true,rfl,fun _ k hk hk'=>HB.out k hk'⟩,HW.out⟩
  obtain⟨b,o,rfl,hb,hr⟩:=H.out.at_ o_;have hcap:=H.out.cap;obtain⟨p,hp⟩:=ex_ (x i);have HR:Hid (w.rangeAt b (o+i*7) (acC p)):=by rw[hp];exact hr i hlt
  have HP:=hd_ hp;obtain⟨mA,hmA⟩:∃m,m=p.nA:=⟨_,rfl⟩;obtain⟨mY,hmY⟩:∃m,m=p.nY:=⟨_,rfl⟩;have hA1:mA<=140737488355328:=by rw[hmA,hp];exact H.out.nA i hlt
  have hY1:mY<=140737488355328:=by rw[hmY,hp];exact H.out.nY i hlt
  have HMA:=hd_ hmA;have HMY:=hd_ hmY;clear hr hp hmA hmY;go_wp2_with fail;refine still_tail 16 mixed kk (fun W4 hW4=>?_);refine mD ?_;have HB4:Hid (Bl w W4):=by rw[<-hW4];exact HW.out.drew
  clear hW4;have k4:W4.cell? ⟨b,o+i*7+4,none⟩=some (.slice p.A mA p.cA):=by rw[HMA.out];exact(HB4.out.cell (p:=⟨b,o+i*7+4,none⟩) hb).trans (HR.out 4 _ rfl)
  have k6:W4.cell? ⟨b,o+i*7+6,none⟩=some (.slice p.Y mY p.cY):=by rw[HMY.out];exact(HB4.out.cell (p:=⟨b,o+i*7+6,none⟩) hb).trans (HR.out 6 _ rfl)
  obtain⟨t,ht⟩:∃t:Nat,t=mY / 100:=⟨_,rfl⟩;have hq:Hid ((mY:Int) / 100=(t:Int)):=hd_ <| by omega
  have hw1:Hid (IntKind.i64.wrap ((s:Int)+mA)=((s+mA:Nat):Int)):=hd_ <| (IntWalk.i64_in _ o_).trans o_
  have hw2:Hid (IntKind.i64.wrap (t:Int)=(t:Int)):=hd_ <| IntWalk.i64_in _ o_
  have hw3:Hid (IntKind.i64.wrap (((s+mA:Nat):Int)+t)=((s+mA+t:Nat):Int)):=hd_ <| (IntWalk.i64_in _ o_).trans o_
  repeat still_step
  rw[hq.out,hw1.out,hw2.out,hw3.out];clear hq hw1 hw2 hw3;refine wpStill_nil ?_;by_cases hbig:s+mA+t<=500
  · (have hle:((s+mA+t:Nat):Int)<=500:=by omega);(have hpr:(x i).nA<=1000/\(x i).nY<=1000000:=by rw[<-HP.out,<- HMA.out,<- HMY.out];omega);(have HB5:Hid (∀k,k<i+1->(x k).nA<=1000/\(x k).nY<=1000000):=fun k hk=>by(rcases Nat.lt_or_ge k i with h|h);(· exact HB.out k h);(obtain rfl:k=i:=by omega);exact hpr);obtain⟨s',hs'⟩:∃s',s+mA+t=s':=⟨_,rfl⟩;rw[hs']at hbig hle ⊢;clear hs' ht hpr k4 k6;go_wp2_with fail;exact⟨⟨i+1,s',rfl,by go_num,by omega,hbig,hd_ o_,HB5,HB4⟩,by simp[intOf];omega⟩
  have hle:¬((s+mA+t:Nat):Int)<=500:=by omega
  obtain⟨s',hs'⟩:∃s',s+mA+t=s':=⟨_,rfl⟩;rw[hs']at hbig hle ⊢;clear hs' ht k4 k6;go_wp2_with fail;exact bodyPost_ret (v:=.bool false) (by simp[results,results6,asAddr,Act.put]) rfl ⟨⟨false,rfl,fun h=>by cases h⟩,HB4.out⟩
end Go.Proofs.YtppjnahcnofokaaGreat.T
namespace Go.Proofs.YtppjnahcnofokaaGreat.T
open Go.RowKit Go.Proofs.YtppjnahcnofokaaGreatW.PrintLast
open Go.Proofs.Tryz
variable{k:IntKind}{a:Act}{b i n B base m fuel D B':Nat}{l ch t0:List Int}{w w' w1 w2:World}{t:TypeId}{P:Program}{cs xs vs l3:List Value}{A A':Option Addr}{o oi:Oper}{e s f st fl:Int}{ops:Array Oper}{rest l0:List Oper}{v:Value}{r:Option Nat}{rs rs2:List (Option Addr×Nat×Nat×List Int)}{E:Prop}{ad ai go:List Bool}{N:Act->Prop}{place:Nat->Option (Nat×Nat)}{bad:Bool}{es es':List (Int×List Int)}{T:List TypeId}
theorem rNum_f(n:Int)(w:World):Calls prog 133 #[.int .i64 n] w fun e w'=>e=.returned (.bool (decide (0<=n/\n<2147483579)))/\w=w':=by
 by_cases h:0<=n<;>by_cases h1:n<2147483579
 all_goals
  go_enter func133,ntmps133
  go_wp2
  go_ret
  exact⟨by simp[h,h1],rfl⟩
theorem rMul_f(a b:Int)(w:World)(h0:0<=a/\a<2147483579)(h1:0<=b/\b<2147483579):Calls prog 134 #[.int .i64 a,.int .i64 b] w fun e w'=>e=.returned (.int .i64 (a*b % 2147483579))/\w=w':=by
 have ha:=hd_ (show decide (0<=a/\a<2147483579)=true by simpa using h0);have hb:=hd_ (show decide (0<=b/\b<2147483579)=true by simpa using h1);have hp:0<=a*b:=Int.mul_nonneg h0.1 h1.1;have hq:a*b<=2147483579*2147483579:=Int.mul_le_mul o_ o_ h1.1 o_;obtain⟨p,hpp⟩:∃p,a*b=p:=⟨_,rfl⟩;rw[hpp]at hp hq;have HPP:=hd_ hpp;clear hpp h0 h1;go_enter func134,ntmps134
 go_wp2_with fail;refine(rNum_f _ _).mono ?_;rintro e w' ⟨rfl,rfl⟩;rw[ha.out];go_wp2_with fail;refine(rNum_f _ _).mono ?_;rintro e w' ⟨rfl,rfl⟩;rw[hb.out];go_wp2_with fail;go_ret;refine⟨ret_int ?_,rfl⟩;have hw:wrap64 (a*b)=a*b:=by rw[HPP.out];unfold wrap64;omega
 rw[hw,HPP.out];exact Int.tmod_eq_emod_of_nonneg hp
theorem rPow_f(b e:Int)(w:World)(h0:0<=b/\b<2147483579)(h1:0<=e/\e<=1073741789):Calls prog 77 #[.int .i64 b,.int .i64 e] w fun r w'=>r=.returned (.int .i64 (powF b e))/\w=w':=by
 have hb:=hd_ (show decide (0<=b/\b<2147483579)=true by simpa using h0);obtain⟨R,hR⟩:=ex_ (powF b e);have HR:=hd_ hR;rw[<-hR];clear hR;obtain⟨h1,h2⟩:=h1;go_enter func77,ntmps77
 go_wp2_with fail;refine(rNum_f _ _).mono ?_;rintro e w' ⟨rfl,rfl⟩;rw[hb.out];go_wp2_with fail;go_loopw [0,1,5] (fun vb ve vn wr=>∃(k:Nat) (n b e:Int),vb=.int .i64 b/\ve=.int .i64 e/\vn=.int .i64 n/\0<=e/\e<2 ^ k/\Hid (0<=n/\n<2147483579)/\Hid (0<=b/\b<2147483579)/\Hid (powR k n b e=R)/\w=wr) (fun _ ve _ _=>(intOf ve).toNat)
 case atStart=>exact⟨31,1,b,e,rfl,rfl,rfl,h1,by omega,(by show _/\_;omega),h0,HR.out.symm,rfl⟩
 case round=>
  obtain⟨k,n,b,e,rfl,rfl,rfl,he0,he1,hn,hb',hr,rfl⟩:=hrel;by_cases hlt:0<e
  · cases k with
    | zero=>exfalso;simp at he1;omega
    | succ k=>
     have hb2:0<=b*b % 2147483579/\b*b % 2147483579<2147483579:=⟨Int.emod_nonneg _ o_,Int.emod_lt_of_pos _ o_⟩;have HB2:=hd_ hb2;have hn2:0<=n*b % 2147483579/\n*b % 2147483579<2147483579:=⟨Int.emod_nonneg _ o_,Int.emod_lt_of_pos _ o_⟩;have HN2:=hd_ hn2;have hr':=hr.out;unfold powR at hr';rw[if_pos hlt]at hr';(have HE:Hid (e / 2<2 ^ k):=by show _<_;rw[Int.pow_succ]at he1;omega);clear hb2 hn2 hr
     cases hq:(bits BinOp.and IntKind.i64 e 1==1) with
     | true=>
      rw[if_pos hq]at hr';have HR':=hd_ hr';clear hr';go_wp2_with fail;refine(rMul_f _ _ _ hn.out hb'.out).mono ?_;rintro _ w' ⟨rfl,rfl⟩;go_wp2_with fail;refine(rMul_f _ _ _ hb'.out hb'.out).mono ?_;rintro _ w' ⟨rfl,rfl⟩;go_wp2_with fail;go_roundw;(case rel=>exact⟨k,_,_,e / 2,rfl,by go_num,rfl,by omega,HE.out,HN2,HB2,HR',trivial⟩);case measure=>simp[intOf];omega
     | false=>
      rw[if_neg (by simp[hq])]at hr';have HR':=hd_ hr';clear hr';go_wp2_with fail;refine(rMul_f _ _ _ hb'.out hb'.out).mono ?_;rintro _ w' ⟨rfl,rfl⟩;go_wp2_with fail;go_roundw;(case rel=>exact⟨k,_,_,e / 2,rfl,by go_num,rfl,by omega,HE.out,hn,HB2,HR',trivial⟩);case measure=>simp[intOf];omega
  have hr':=hr.out;have hn':n=R:=by
   cases k with
   | zero=>exact hr'
   | succ k=>unfold powR at hr';rw[if_neg hlt]at hr';exact hr'
  subst hn';clear hr hr';go_wp2_with fail;go_ret;exact⟨rfl,rfl⟩
theorem rIs_f(y:Int)(w:World):Calls prog 46 #[.int .i64 y] w fun r w'=>r=.returned (.bool (pubB y))/\w=w':=by
 by_cases h1:1<y
 · by_cases h2:y<2147483579;(· (have HP:Hid (pubB y=(powF y 1073741789==1)):=by show _=_;unfold pubB;simp[h1,h2]);obtain⟨q,hq⟩:∃q,powF y 1073741789=q:=⟨_,rfl⟩;have HQ:=hd_ hq;clear hq;(go_enter func46,ntmps46);go_wp2_with fail;refine(rPow_f _ _ _ ⟨by omega,h2⟩ ⟨by omega,by omega⟩).mono ?_;rintro _ w' ⟨rfl,rfl⟩;rw[HQ.out];go_wp2_with fail;go_ret;exact⟨by rw[HP.out,HQ.out];rfl,rfl⟩);(have HP:Hid (pubB y=false):=by show _=_;unfold pubB;simp[h2]);(go_enter func46,ntmps46);go_wp2_with fail;go_ret;exact⟨by rw[HP.out];simp[h2],rfl⟩
 have HP:Hid (pubB y=false):=by show _=_;unfold pubB;simp[h1]
 go_enter func46,ntmps46
 go_wp2_with fail;go_ret;exact⟨by rw[HP.out];simp[h1],rfl⟩
theorem pub_or{x:Int}(h:keyB x=true):x=0\/pubB x=true:=by
 unfold keyB at h;simpa using h
theorem rMem_f(e k n:Int)(t ch:List Int)(ad:List Bool)(w:World)(h:VwOk t ad ch)(hn:0<=n/\n<8)(hm:memB t n.toNat=true):Calls prog 14 #[.agg (vw e t ad k ch).toArray,.int .i64 n] w fun r w'=>r=.returned (.bool true)/\Bl w w':=by
 obtain⟨w1,hW⟩:=ex_ (w.alloc (.cells (vw e t ad k ch).toArray 45));have HC:Hid (Cel w1 w.heap.size 45 (vw e t ad k ch)):=by rw[hW];exact Cel.new _ rfl rfl
 have HV:=hd_ h;have HW:=hd_ hW;clear hW h;obtain⟨m,rfl⟩:=Int.eq_ofNat_of_zero_le hn.1;have hm8:m*2+1<31:=by omega
 have h0:(0:Int)<=m:=hn.1;have h8:(m:Int)<8:=hn.2;have c0:(w.alloc (.cells (vw e t ad k ch).toArray 45)).cell? ⟨w.heap.size,1+m*2,none⟩=some (.int .i64 (t.getD (m*2) 0)):=by rw[<-HW.out,HC.out.cell];exact vw_tree HV.out (m*2) o_
 have c1:(w.alloc (.cells (vw e t ad k ch).toArray 45)).cell? ⟨w.heap.size,1+m*2+1,none⟩=some (.int .i64 (t.getD (m*2+1) 0)):=by rw[<-HW.out,HC.out.cell];exact vw_tree HV.out (m*2+1) hm8
 have hmb:((t.getD (m*2) 0 != 0) || (t.getD (m*2+1) 0 != 0))=true:=hm;generalize t.getD (m*2) 0=x0 at c0 hmb;generalize t.getD (m*2+1) 0=x1 at c1 hmb;clear hm hn;go_enter func14,ntmps14
 by_cases hx0:x0=0
 · by_cases hx1:x1=0;(· subst hx0 hx1;simp at hmb);subst hx0;clear hmb;go_wp2
   all_goals
    go_ret
    exact⟨by first|rfl|simp[hx1],b0_⟩
 clear hmb;go_wp2
 all_goals
  go_ret
  exact⟨by first|rfl|simp[hx0],b0_⟩
theorem rAdm_f(e k:Int)(t ch:List Int)(ad:List Bool)(w:World)(h:VwOk t ad ch):Calls prog 28 #[.agg (vw e t ad k ch).toArray] w fun r w'=>r=.returned (.int .i64 (admN ad 8))/\Bl w w':=by
 obtain⟨w1,hW⟩:=ex_ (w.alloc (.cells (vw e t ad k ch).toArray 45));have HC:Hid (Cel w1 w.heap.size 45 (vw e t ad k ch)):=by rw[hW];exact Cel.new _ rfl rfl
 have Hb:Hid (Bl w w1):=by rw[hW];exact b0_
 have HV:=hd_ h;have HW:=hd_ hW;clear hW h;go_enter func28,ntmps28
 go_wp2_with fail;go_loopw [3,4] (fun vc v wr=>∃(i:Nat),v=.int .i64 i/\vc=.int .i64 (admN ad i)/\i<=8/\w1=wr) (fun _ v _=>8-(intOf v).toNat)
 case atStart=>exact⟨0,rfl,rfl,by omega,HW.out⟩
 case round=>
  obtain⟨i,rfl,rfl,hi,rfl⟩:=hrel;by_cases hlt:i<8
  · (have hli:(i:Int)<8:=by omega);have c0:w1.cell? ⟨w.heap.size,32+i,none⟩=some (.bool (ad.getD i false)):=(HC.out.cell (32+i)).trans (vw_admin HV.out i hlt);obtain⟨b,hb⟩:∃b,ad.getD i false=b:=⟨_,rfl⟩;rw[hb]at c0;have HB:=hd_ hb;have HN:Hid (admN ad i<=i):=admN_le ad i;clear hb
    cases b with
    | false=>
     (have HS:Hid (admN ad (i+1)=admN ad i):=by show admN ad i+_=_;rw[HB.out];simp);go_wp2_with fail;go_roundw;(case rel=>exact⟨i+1,by go_num,by rw[HS.out],by omega,trivial⟩);case measure=>simp[intOf];omega
    | true=>
     (have HS:Hid (((admN ad (i+1):Nat):Int)=wrap64 ((admN ad i:Int)+1)):=by show((admN ad i+_:Nat):Int)=_;rw[HB.out];exact(adm_wrap _ _ HN.out hlt).symm);obtain⟨q,hq⟩:=ex_ (admN ad i);rw[<-hq]at HS ⊢;go_wp2_with fail;go_roundw;(case rel=>exact⟨i+1,by go_num,by rw[HS.out,hq],by omega,trivial⟩);case measure=>simp[intOf];omega
  obtain rfl:i=8:=by omega
  go_wp2_with fail;go_ret;exact⟨rfl,Hb.out⟩
theorem rTree_f(t:List Int)(w:World)(ht:TreeOk t):Calls prog 27 #[.agg (ints .i64 t).toArray] w fun r w'=>r=.returned (.bool true)/\Bl w w':=by
 obtain⟨w1,hW⟩:=ex_ (w.alloc (.cells (ints .i64 t).toArray 40));have HB:Hid (Blk w1 w.heap.size .i64 40 t):=by rw[hW];exact blk40 w t
 have Hb:Hid (Bl w w1):=by rw[hW];exact b0_
 have HT:=hd_ ht;have HW:=hd_ hW;clear hW ht;go_enter func27,ntmps27
 go_wp2_with fail;go_loopw [3] (fun v wr=>∃i:Nat,v=.int .i64 i/\i<=8/\Hid (Bl w1 wr)) (fun v _=>8-(intOf v).toNat)
 case atStart=>rw[<-HW.out];exact⟨0,rfl,by omega,Below.refl _ _⟩
 case round=>
  obtain⟨i,rfl,hi,hb⟩:=hrel;have HBr:=hd_ (HB.out.below hb.out HB.out.lt);by_cases hlt:i<8
  · (have hli:(i:Int)<8:=by omega);have hlf:=HT.out.leaf i hlt;have c0:wr.cell? ⟨w.heap.size,i*2,none⟩=some (.int .i64 (t.getD (i*2) 0)):=HBr.out.cell (by rw[List.getD_eq_getElem?_getD,List.getElem?_eq_getElem (by rw[HT.out.len];omega)];rfl);have c1:wr.cell? ⟨w.heap.size,i*2+1,none⟩=some (.int .i64 (t.getD (i*2+1) 0)):=HBr.out.cell (by rw[List.getD_eq_getElem?_getD,List.getElem?_eq_getElem (by rw[HT.out.len];omega)];rfl);generalize t.getD (i*2) 0=x at c0 hlf;generalize t.getD (i*2+1) 0=y at c1 hlf;have HLF:=hd_ hlf;clear hlf;by_cases hx:x=0;(· have hy:y=0:=HLF.out.2.2.1 hx;subst hx hy;go_wp2_with fail;exact⟨⟨i+1,by go_num,by omega,hb.out.alloc hb.out.size _⟩,by simp[intOf];omega⟩);have hy:y≠0:=fun e=>hx (HLF.out.2.2.2 e);have HPX:Hid (pubB x=true):=(pub_or HLF.out.1).resolve_left hx;have HPY:Hid (pubB y=true):=(pub_or HLF.out.2.1).resolve_left hy;go_wp2_with fail;refine(rIs_f _ _).mono ?_;rintro _ w4 ⟨rfl,rfl⟩;rw[HPX.out];go_wp2_with fail;refine(rIs_f _ _).mono ?_;rintro _ w4 ⟨rfl,rfl⟩;rw[HPY.out];go_wp2_with fail;exact⟨⟨i+1,by go_num,by omega,hb.out.alloc hb.out.size _⟩,by simp[intOf];omega⟩
  have Hbr:Hid (Bl w wr):=Hb.out.trans (hb.out.mono Hb.out.size);go_wp2_with fail;go_loopw [5] (fun v w'=>∃j:Nat,v=.int .i64 j/\j<=15/\wr=w') (fun v _=>15-(intOf v).toNat)
  case atStart=>exact⟨0,rfl,by omega,rfl⟩
  case round=>
   obtain⟨j,rfl,hj,rfl⟩:=hrel;by_cases hlj:j<15;(· (have hlji:(j:Int)<15:=by omega);have hnd:=HT.out.node j hlj;have c0:wr.cell? ⟨w.heap.size,16+j,none⟩=some (.int .i64 (t.getD (16+j) 0)):=HBr.out.cell (by rw[List.getD_eq_getElem?_getD,List.getElem?_eq_getElem (by rw[HT.out.len];omega)];rfl);generalize t.getD (16+j) 0=x at c0 hnd;have HND:=hd_ hnd;clear hnd;by_cases hx:x=0;(· subst hx;go_wp2_with fail;go_roundw;(case rel=>exact⟨j+1,by go_num,by omega,trivial⟩);case measure=>simp[intOf];omega);have HPX:Hid (pubB x=true):=(pub_or HND.out.1).resolve_left hx;(have hodd:j % 2=1:=by have:=HND.out.2;by_cases h:j % 2=0;(· exact absurd (this h) hx);omega);(have hq:(bits BinOp.and IntKind.i64 (j:Int) 1==0)=false:=by rw[even_bit j o_,hodd];rfl);go_wp2_with fail;refine(rIs_f _ _).mono ?_;rintro _ w4 ⟨rfl,rfl⟩;rw[HPX.out];go_wp2_with fail;go_roundw;(case rel=>exact⟨j+1,by go_num,by omega,trivial⟩);case measure=>simp[intOf];omega);go_wp2_with fail;go_ret;exact⟨rfl,Hbr.out⟩
theorem rView_f(e k:Int)(t ch:List Int)(ad:List Bool)(w:World)(h:VwOk t ad ch)(hm:MayV e k t ad):Calls prog 13 #[.agg (vw e t ad k ch).toArray] w fun r w'=>r=.returned (.bool true)/\Bl w w':=by
 obtain⟨w1,hW⟩:=ex_ (w.alloc (.cells (vw e t ad k ch).toArray 45));have HC:Hid (Cel w1 w.heap.size 45 (vw e t ad k ch)):=by rw[hW];exact Cel.new _ rfl rfl
 have Hb:Hid (Bl w w1):=by rw[hW];exact b0_
 have HV:=hd_ h;have HM:=hd_ hm;have HW:=hd_ hW;have HIT:Hid ((prog.info? 40).map (·.size)=some (ints .i64 t).length):=hi40 h.tree;have h1:0<=e:=hm.e0;have h2:e<=1099511627776:=hm.e1;have h3:1<=k:=hm.k1;clear hW h hm;go_enter func13,ntmps13
 go_wp2_with fail;go_loopw [3] (fun v wr=>∃i:Nat,v=.int .i64 i/\i<=8/\Hid (Bl w1 wr)) (fun v _=>8-(intOf v).toNat)
 case atStart=>rw[<-HW.out];exact⟨0,rfl,by omega,Below.refl _ _⟩
 case round=>
  obtain⟨i,rfl,hi,hb⟩:=hrel;have HCr:=hd_ (HC.out.below hb.out HC.out.lt);by_cases hlt:i<8
  · (have hli:(i:Int)<8:=by omega);have c0:wr.cell? ⟨w.heap.size,32+i,none⟩=some (.bool (ad.getD i false)):=(HCr.out.cell (32+i)).trans (vw_admin HV.out i hlt);obtain⟨b,hb2⟩:∃b,ad.getD i false=b:=⟨_,rfl⟩;rw[hb2]at c0;have HB2:=hd_ hb2;clear hb2
    cases b with
    | false=>
     go_wp2_with fail;go_roundw;(case rel=>exact⟨i+1,by go_num,by omega,hb⟩);case measure=>simp[intOf];omega
    | true=>
     go_wp2_with (refine load_g rr 45 (.tmp 1) rr w.heap.size 0 rr (vw e t ad k ch) _ HCr.out.all underlying45 rfl (vw_hi HV.out) ?_);refine(rMem_f e k i t ch ad _ HV.out ⟨by omega,by omega⟩ (HM.out.mem i hlt HB2.out)).mono ?_;rintro _ w4 ⟨rfl,hb4⟩;have Hb4:=tb_ hb hb4;clear hb4 c0;go_wp2_with fail;go_roundw;(case rel=>exact⟨i+1,by go_num,by omega,Hb4⟩);case measure=>simp[intOf];omega
  have Hbr:Hid (Bl w wr):=Hb.out.trans (hb.out.mono Hb.out.size);go_wp2_with fail;refine pr_ 19 7 (bt 26 524287) fun w1d hw1d=>?_;refine mG ?_;have h1d:Bl wr w1d:=by rw[<-hw1d];exact(Below.refl _ _).drew
  have HB1:=tb_ hb h1d;have HC1:Hid (Cel w1d w.heap.size 45 (vw e t ad k ch)):=HC.out.below HB1.out HC.out.lt;have c0:w1d.cell? ⟨w.heap.size,0,none⟩=some (.int .i64 e):=by rw[HC1.out.cell];rfl
  have c40:w1d.cell? ⟨w.heap.size,40,none⟩=some (.int .i64 k):=by rw[HC1.out.cell];exact vw_k HV.out
  clear h1d hw1d;go_wp2_with (refine load_g rr 40 (.tmp 27) rr w.heap.size 1 rr (ints .i64 t) _ (vw_trange HV.out HC1.out) underlying40 rfl HIT.out ?_);refine(rTree_f t _ HM.out.tree).mono ?_;rintro _ w4 ⟨rfl,hb4⟩;have Hb4:=tb_ HB1 hb4;have c40':w4.cell? ⟨w.heap.size,40,none⟩=some (.int .i64 k):=(hb4.cell (Nat.lt_of_lt_of_le HC.out.lt HB1.out.size)).trans c40;clear c40 c0 hb4;go_wp2_with fail;refine wpAny_of_last (S:=fun w'=>w'.cell? ⟨w.heap.size,40,none⟩=some (.int .i64 k)/\Hid (Bl w1 w')) (ds:=[23,24,25]) _ _ _ _ ?_;have hH:=And.intro c40' Hb4;refine ts_ 19 3 4 (bt 26 4194303) hH ?_;refine mD ?_;repeat (first|(refine tk_ 45 (.tmp 1) w.heap.size 0 (vw e t ad k ch) (fun _ h=>(HC.out.below h.2.out HC.out.lt).all) underlying45 rfl (vw_hi HV.out) ?_)|(refine uA ?_)|(refine mB2 ?_))
  refine takes_nil ?_;refine one_ (i:=22) (N:=some 40) (bt 26 8388607) rfl rfl kk dd (fun K hK=>?_);refine goes_ func28 kk rfl #[.agg (vw e t ad k ch).toArray] rr rfl rfl mL ?_;refine(rAdm_f e k t ch ad _ HV.out).mono ?_;rintro _ w5 ⟨rfl,hb5⟩;refine⟨_,rfl,?_⟩;refine hK.out _ _ ⟨(hb5.cell (Nat.lt_of_lt_of_le HC.out.lt hH.2.out.size)).trans hH.1,hH.2.out.trans (hb5.mono hH.2.out.size)⟩ (fun hH=>?_);clear hK K hb5;refine mN ?_;refine tl_ 23 ?_;refine mF ?_;go_wp2;go_ret;exact⟨by have:=HM.out.kn;simp[this],Hb.out.trans (hH.2.out.mono Hb.out.size)⟩
end Go.Proofs.YtppjnahcnofokaaGreat.T
namespace Go.Proofs.YtppjnahcnofokaaGreat.T
open Go.RowKit Go.Proofs.YtppjnahcnofokaaGreatW.PrintLast
open Go.Proofs.Tryz
variable{k:IntKind}{a:Act}{b i n B base m fuel D B':Nat}{l ch t0:List Int}{w w' w1 w2:World}{t:TypeId}{P:Program}{cs xs vs l3:List Value}{A A':Option Addr}{o oi:Oper}{e s f st fl:Int}{ops:Array Oper}{rest l0:List Oper}{v:Value}{r:Option Nat}{rs rs2:List (Option Addr×Nat×Nat×List Int)}{E:Prop}{ad ai go:List Bool}{N:Act->Prop}{place:Nat->Option (Nat×Nat)}{bad:Bool}{es es':List (Int×List Int)}{T:List TypeId}
theorem Below.kp(h:Below B w w1)(hk:Kp T B w1 w2)(hB:B<=w1.heap.size):Below B w w2:=by
 refine⟨hk.os.trans h.os,hk.tape.trans h.tape,hk.output.trans h.output,Nat.le_trans h.size hk.size,fun k hk'=>(hk.low k hk' (Nat.lt_of_lt_of_le hk' hB)).trans (h.block k hk')⟩
theorem AcOk.lift{B1:Nat}{x:AcP}(h:AcOk w B x)(hb:Bl w w1)(hB:B<=B1):AcOk w1 B1 x:=by
 obtain⟨h1,h2,h3,h4,h5,h6⟩:=h.kp (Kp.of_below (T:=[]) (B:=B) hb);refine⟨h1,h2,fun h0=>?_,h4,h5,fun h0=>?_⟩
 · obtain⟨b,o,e,hlt⟩:=h3 h0;exact⟨b,o,e,Nat.lt_of_lt_of_le hlt hB⟩
 obtain⟨b,o,e,hlt⟩:=h6 h0;exact⟨b,o,e,Nat.lt_of_lt_of_le hlt hB⟩
theorem topMay_any(w:World)(A:Option Addr)(n c:Nat)(x:Nat->AcP)(h:ActsR w A n c x):Calls prog 4 #[.slice A n c] w fun r w'=>r=.returned (.bool true)/\Bl w w':=by
 have H:=hd_ h;clear h;go_enter func4,ntmps4
 go_wp2_with fail;refine(actsOk_any w A n c x H.out).mono ?_;rintro _ w1 ⟨⟨q,rfl,hq⟩,hb1⟩;have HB1:=hd_ hb1;have HQ:=hd_ hq;clear hb1 hq;cases q
 · go_wp2_with fail;exact bodyPost_ret (v:=.bool true) (by simp[results,results4,asAddr,Act.put]) rfl ⟨rfl,HB1.out⟩
 go_wp2_with fail;refine(new_any w1).mono ?_;rintro _ w2 ⟨g,d0,x0,rfl,hd0,hb2,-,-,-,hxs0⟩;obtain⟨B,hB⟩:=ex_ (w1.heap.size);rw[<-hB]at hd0 hb2;have hbB:w.heap.size<=B:=by rw[hB];exact HB1.out.size
 have H2:=hd_ hd0;have HB2:Hid (Bl w w2):=HB1.out.trans (hb2.mono hbB);have HL:Hid (B<=w2.heap.size):=by rw[hB];exact hb2.size
 have HBB:=hd_ hbB;have HS0:Hid (d0.xs.length<=0):=by rw[hxs0];exact Nat.le_refl _
 have HOk:Hid (∀i,i<n->i<45->AcOk w2 B (x i)):=fun i h1 h2=>(H.out.ok h1 (HQ.out trivial i h1 h2).1 (HQ.out trivial i h1 h2).2).lift HB2.out hbB;have HLT:Hid (0<n->∃b o,A=some ⟨b,o,none⟩/\b<B/\b<w2.heap.size/\∀i,i<n->w2.rangeAt b (o+i*7) (acC (x i))):=fun h0=>by obtain⟨b,o,e,hlt,hr⟩:=H.out.at_ h0;exact⟨b,o,e,Nat.lt_of_lt_of_le hlt hbB,Nat.lt_of_lt_of_le hlt HB2.out.size,fun i hi j v hv=>(HB2.out.cell (p:=⟨b,o+i*7+j,none⟩) hlt).trans (hr i hi j v hv)⟩
 clear hd0 hb2 hB hbB hxs0 HB1 HQ;go_wp2_with fail;go_loopw [4] (fun v wr=>∃i:Nat,v=.int .i64 i/\i<=45/\Hid (i<=n)/\Hid (∃d,WdAt wr B g 0 d/\d.xs.length<=i)/\Hid (Kp TW B w2 wr)) (fun v _=>45-(intOf v).toNat)
 case atStart=>exact⟨0,rfl,by omega,hd_ (Nat.zero_le _),hd_ ⟨d0,H2.out,HS0.out⟩,hd_ (Kp.refl _ _ _)⟩
 case round=>
  clear H2 HS0;obtain⟨wa,rfl⟩:=ex_ (wr);obtain⟨i,rfl,hi,HI,HD,HKa⟩:=hrel;by_cases hgo:i<n/\i<45;rotate_left
  · by_cases hlt:i<n;(· (obtain rfl:i=45:=by omega);go_wp2_with fail;refine(known_any wa).mono ?_;rintro _ w9 ⟨rfl,hb9⟩;go_wp2_with fail;exact bodyPost_ret (v:=.bool true) (by simp[results,results4,asAddr,Act.put]) rfl ⟨rfl,(Below.kp HB2.out (HKa.out.low' HBB.out) HB2.out.size).trans (hb9.mono (Nat.le_trans HB2.out.size HKa.out.size))⟩);(obtain rfl:i=n:=by have:=HI.out;omega);go_wp2_with fail;refine(known_any wa).mono ?_;rintro _ w9 ⟨rfl,hb9⟩;go_wp2_with fail;exact bodyPost_ret (v:=.bool true) (by simp[results,results4,asAddr,Act.put]) rfl ⟨rfl,(Below.kp HB2.out (HKa.out.low' HBB.out) HB2.out.size).trans (hb9.mono (Nat.le_trans HB2.out.size HKa.out.size))⟩
  obtain⟨hlt,h45⟩:=hgo;obtain⟨b,o,rfl,hbB,hb2,hr⟩:=HLT.out o_;have hcap:=H.out.cap;obtain⟨p,hp⟩:=ex_ (x i);have HR2:Hid (w2.rangeAt b (o+i*7) (acC p)):=by rw[hp];exact hr i hlt
  have HAc:Hid (AcOk w2 B p):=by rw[hp];exact HOk.out i hlt h45
  obtain⟨wh,hwh⟩:=ex_ (p.wh);have HWh:=hd_ hwh;have HbB:=hd_ hbB;have Hb2:=hd_ hb2;clear hr hp hwh hbB hb2 HLT HOk;obtain⟨d,hd,hdx⟩:=HD.out;have Hd:=hd_ hd;have HX:=hd_ hdx;clear hd hdx HD;have HRa:Hid (wa.rangeAt b (o+i*7) (acC p)):=HKa.out.range HR2.out HbB.out Hb2.out;have HAa:=hd_ (HAc.out.kp HKa.out);go_wp2_with (refine wpList_load_mid rfl 33 (.tmp 26) rr b (o+i*7) rr (acC p) _ HRa.out underlying33 rfl (ac_hi p) ?_);refine(step_any wa B g d Hd.out p HAa.out (by have:=HX.out;omega)).mono ?_;rintro _ wc ⟨⟨e,rfl,-⟩,d',hdc,hkc,-,-,hxs⟩;have HKc:=hd_ (HKa.out.trans hkc);have Hdc:=hd_ hdc;have HXs:Hid (d'.xs.length<=i+1):=Nat.le_trans hxs (Nat.succ_le_succ HX.out);clear hdc hkc hxs HRa HAa HKa HX Hd HR2 HAc;go_wp2_with fail;go_loopw [5] (fun v wr=>∃k:Nat,v=.int .i64 k/\k<=8/\Hid (WdAt wr B g 0 d')/\Hid (Kp TW B w2 wr)) (fun v _=>8-(intOf v).toNat)
  case atStart=>exact⟨0,rfl,by omega,Hdc,HKc⟩
  case round=>
   clear Hdc HKc;obtain⟨wf,rfl⟩:=ex_ (wr);obtain⟨k,rfl,hk,HD,HK⟩:=hrel;by_cases hk8:k<8;rotate_left;(· (obtain rfl:k=8:=by omega);go_wp2_with fail;exact⟨⟨i+1,by go_num,by omega,hd_ o_,hd_ ⟨d',HD.out,HXs.out⟩,HK⟩,by simp[intOf];omega⟩);(have hki:(k:Int)<8:=by omega);go_wp2_with fail;refine(party_any wf B g d' HD.out k hk8).mono ?_;rintro _ w4 ⟨hp,hd4,hk4⟩;have H4:=hd_ hd4;have HK4:=hd_ (HK.out.trans hk4);clear hd4 hk4 HD HK;(rcases hp with⟨_,rfl⟩|⟨b3,y,_,rfl,-,hc,hok,hmay⟩);(· go_wp2_with fail;go_roundw;(case rel=>exact⟨k+1,by go_num,by omega,H4,HK4⟩);case measure=>simp[intOf];omega);have HC:=hd_ hc;have HO:=hd_ hok;have HM:=hd_ hmay;clear hc hok hmay;go_wp2_with fail;refine(view_p_any b3 y w4 HC.out HO.out).mono ?_;rintro _ w5 ⟨rfl,hb⟩;have H5:=hd_ (H4.out.below hb);have HK5:=hd_ (HK4.out.bel hb);have HC5:=hd_ (HC.out.below hb HC.out.lt);clear hb H4 HK4 HC;go_wp2_with fail;refine(rView_f y.e y.k y.t y.ch y.ad w5 HO.out.vw HM.out.v).mono ?_;rintro _ w6 ⟨rfl,hb⟩;have H6:=hd_ (H5.out.below hb);have HK6:=hd_ (HK5.out.bel hb);have HC6:=hd_ (HC5.out.below hb HC5.out.lt);clear hb H5 HK5 HC5;go_wp2_with fail;refine(view_p_any b3 y w6 HC6.out HO.out).mono ?_;rintro _ w7 ⟨rfl,hb⟩;have H7:=hd_ (H6.out.below hb);have HK7:=hd_ (HK6.out.bel hb);have HC7:=hd_ (HC6.out.below hb HC6.out.lt);clear hb H6 HK6 HC6;go_wp2_with fail;refine(leaf_p_any b3 y w7 HC7.out HO.out).mono ?_;rintro _ _ ⟨rfl,rfl⟩;go_wp2_with fail;refine(rMem_f y.e y.k y.lf y.t y.ch y.ad w7 HO.out.vw HM.out.l HM.out.m).mono ?_;rintro _ w8 ⟨rfl,hb⟩;have H8:=hd_ (H7.out.below hb);have HK8:=hd_ (HK7.out.bel hb);clear hb H7 HK7 HC7;go_wp2_with fail;go_roundw;(case rel=>exact⟨k+1,by go_num,by omega,H8,HK8⟩);case measure=>simp[intOf];omega
end Go.Proofs.YtppjnahcnofokaaGreat.T
namespace Go.Proofs.YtppjnahcnofokaaGreat.T
open Go.ChangeShapes Go.WideShapes Go.RowKit Go.Deep
open Go.Proofs.Tryz
variable{k:IntKind}{a:Act}{b i n B base m fuel D B':Nat}{l ch t0:List Int}{w w' w1 w2:World}{t:TypeId}{P:Program}{cs xs vs l3:List Value}{A A':Option Addr}{o oi:Oper}{e s f st fl:Int}{ops:Array Oper}{rest l0:List Oper}{v:Value}{r:Option Nat}{rs rs2:List (Option Addr×Nat×Nat×List Int)}{E:Prop}{ad ai go:List Bool}{N:Act->Prop}{place:Nat->Option (Nat×Nat)}{bad:Bool}{es es':List (Int×List Int)}{T:List TypeId}
section
variable {H:Type} {enc:TypeId×Value->H} {W:World} {base:Nat} {sp:Nat->Bool} {held:Bool}
theorem weights_all{e:TypeId}:∀{l:List (DataW H)} {d:DataW H},d ∈ l->∀n ∈ d.weights P e,n ∈ DataW.weightsAll P e l
 | d0 :: l,d,hd,n,hn=>by
  simp only[DataW.weightsAll,List.mem_append];rcases List.mem_cons.1 hd with rfl|h
  · exact .inl hn
  exact .inr (weights_all h n hn)
theorem take_one(h:(cs.drop i).take 1=[v]):cs[i]? = some v:=by
 have h0:((cs.drop i).take 1)[0]? = some v:=by rw[h];rfl
 simpa[List.getElem?_take] using h0
theorem int_at{y:DataW H×List MemPlace}(h:DataW.trod enc prog W base sp held m 3 ((cs.drop i).take (prog.cellsOf 3))=some y):∃z,cs[i]? = some (.int .i64 z):=by
 have c3:prog.cellsOf 3=1:=by kernel_rfl
 rw[c3]at h;obtain⟨k,e1,_⟩:=DataW.trod_int underlying3 h;exact⟨k,take_one e1⟩
theorem open_op{x:DataW H×List MemPlace}(h:DataW.trod enc prog W base sp held n 55 cs=some x):∃l:List Int,l.length=5/\cs=ints .i64 l:=by
 obtain⟨xs,m,_,_,hlen,hl,hf⟩:=DataW.trod_struct underlying55 h;have c36:prog.cellsOf 36=2:=by kernel_rfl
 have c55:prog.cellsOf 55=5:=by kernel_rfl
 rw[c55]at hlen;have hl4:xs.length=4:=hl;obtain⟨z0,e0⟩:=int_at ((hf 0 _ rfl).trans (List.getElem?_eq_getElem o_));obtain⟨z1,e1⟩:=int_at ((hf 1 _ rfl).trans (List.getElem?_eq_getElem o_));obtain⟨z2,e2⟩:=int_at ((hf 2 _ rfl).trans (List.getElem?_eq_getElem o_));have g3:DataW.trod enc prog W base sp held m 36 ((cs.drop 3).take (prog.cellsOf 36))=some _:=(hf 3 _ rfl).trans (List.getElem?_eq_getElem o_);rw[c36]at g3;obtain⟨ys,m',_,_,_,hk,hg⟩:=DataW.trod_struct underlying36 g3;have hk2:ys.length=2:=hk;obtain⟨z3,e3⟩:=int_at ((hg 0 _ rfl).trans (List.getElem?_eq_getElem o_));obtain⟨z4,e4⟩:=int_at ((hg 1 _ rfl).trans (List.getElem?_eq_getElem o_));have d3:cs[3]? = some (.int .i64 z3):=by simpa[List.getElem?_take] using e3
 have d4:cs[4]? = some (.int .i64 z4):=by simpa[List.getElem?_take] using e4
 refine⟨[z0,z1,z2,z3,z4],rfl,List.ext_getElem? fun i=>?_⟩
 match i with
 | 0=>exact e0
 | 1=>exact e1
 | 2=>exact e2
 | 3=>exact d3
 | 4=>exact d4
 | j+5=>rw[List.getElem?_eq_none o_,List.getElem?_eq_none (by simp[ints])]
theorem unchunk{α β : Type}(f:α->List β)(m:Nat):∀(zs:List α) (_:∀z ∈ zs,(f z).length=m) (j:Nat) (v:β),(zs.flatMap f)[j]? = some v->∃(i r:Nat) (z:α),zs[i]? = some z/\(f z)[r]? = some v/\j=i*m+r
 | [],_,j,v,h=>by simp at h
 | z :: zs,hz,j,v,h=>by
  have h0:=hz z s_;rw[List.flatMap_cons,List.getElem?_append]at h;split at h
  · exact⟨0,j,z,rfl,h,by omega⟩
  rename_i hj;obtain⟨i,r,y,h1,h2,h3⟩:=unchunk f m zs (fun y hy=>hz y (by simp[hy])) _ v h;exact⟨i+1,r,y,by simpa using h1,h2,by rw[Nat.succ_mul];omega⟩
theorem flat_len{α β : Type}(f:α->List β)(m:Nat):∀(zs:List α) (_:∀z ∈ zs,(f z).length=m),(zs.flatMap f).length=zs.length*m
 | [],_=>by simp
 | z :: zs,h=>by
  rw[List.flatMap_cons,List.length_append,h z s_,flat_len f m zs (fun y hy=>h y (by simp[hy])),List.length_cons,Nat.succ_mul];omega
theorem spot_of{a:Addr}(h:W.cell? a=some v):∃b o,a=⟨b,o,none⟩/\b<W.heap.size:=by
 obtain⟨b,o,spot⟩:=a;have hs:spot=none:=World.cell?_spot h;subst hs;refine⟨b,o,rfl,?_⟩;rcases Nat.lt_or_ge b W.heap.size with h'|h'
 · exact h'
 simp[World.cell?,Array.getElem?_eq_none h']at h
theorem open_ops{y:DataW H×List MemPlace}(h:DataW.trod enc prog W base (fun _=>true) held n 30 [v]=some y)(hw:∀n ∈ y.1.weights prog 30,n<=reachBytes): ∃(A:Option Addr) (len cap:Nat) (l:List Int),v=.slice A len cap/\OpsR W A len cap l/\len<=140737488355328/\LowA A cap W.heap.size:=by
 rcases open_slice underlying30 h with⟨hcs,_⟩|⟨x,l,c,m,n',D,Pl,hcs,_,hl,hm,hmm,ey,hr⟩
 · (obtain rfl:v=.slice none 0 0:=by simpa using hcs);exact⟨none,0,0,[],rfl,⟨rfl,Nat.le_refl _,fun h=>absurd h (Nat.lt_irrefl 0)⟩,by omega,fun h=>absurd h (Nat.lt_irrefl 0)⟩
 obtain rfl:v=.slice (some x) l c:=by simpa using hcs
 have c55:prog.cellsOf 55=5:=by kernel_rfl
 have b55:prog.bytesOf 55=40:=by kernel_rfl
 rw[c55]at hr;simp only[if_true]at hmm;subst hmm;have each:∀i,i<m->∃z:List Int,z.length=5/\∀j v,(ints .i64 z)[j]? = some v->W.cell? ((x.add (i*5)).add j)=some v:=by
  intro i hi;obtain⟨cs',h1,h2⟩:=hr i hi;obtain⟨z,hz,rfl⟩:=open_op h2;obtain⟨_,hlen,hcell⟩:=World.cells?_some h1;refine⟨z,hz,fun j v hv=>?_⟩;have hj:j<5:=by rw[<-hlen];exact(List.getElem?_eq_some_iff.1 hv).1
  rw[hcell j hj,hv]
 obtain⟨f,hfs⟩:=choose_lt each;have hlw:l<=140737488355328:=by have:=hw ((((List.range l).map D).length+((List.range (m-l)).map fun j=>D (l+j)).length)*prog.bytesOf 55) (by rw[ey];simp only[DataW.weights,underlying30,List.mem_cons];exact .inl (by first|rfl|trivial));rw[b55,List.length_map,List.length_range,List.length_map,List.length_range]at this;unfold reachBytes at this;omega
 have hat:0<m->∃b o,x=⟨b,o,none⟩/\b<W.heap.size:=fun h0=>by
  obtain⟨h1,h2⟩:=hfs 0 h0;have hv:(ints .i64 (f 0))[0]? = some (.int .i64 ((f 0)[0]'o_)):=by unfold ints;rw[List.getElem?_map,List.getElem?_eq_getElem o_];rfl
  have:=h2 0 _ hv;rw[Nat.zero_mul]at this;have e:(x.add 0).add 0=x:=by obtain⟨b,o,s⟩:=x;rfl
  rw[e]at this;exact spot_of this
 refine⟨some x,l,m,(List.range l).flatMap f,rfl,⟨?_,hl,fun h0=>?_⟩,hlw,fun h0=>?_⟩
 · rw[ints_len,flat_len f 5 _ (fun i hi=>(hfs i (Nat.lt_of_lt_of_le (List.mem_range.1 hi) hl)).1),List.length_range]
 · obtain⟨b,o,rfl,hb⟩:=hat h0;refine⟨b,o,rfl,hb,fun j v hv=>?_⟩;rw[show ints .i64 ((List.range l).flatMap f)=(List.range l).flatMap (fun i=>ints .i64 (f i)) by unfold ints;rw[List.map_flatMap]]at hv;obtain⟨i,r,z,h1,h2,h3⟩:=unchunk _ 5 _ (fun z hz=>by rw[ints_len];exact(hfs z (Nat.lt_of_lt_of_le (List.mem_range.1 hz) hl)).1) j v hv;(have hi:i<l:=by(rcases Nat.lt_or_ge i l with h|h);(· exact h);rw[List.getElem?_eq_none (by simpa using h)]at h1;cases h1);rw[List.getElem?_range hi]at h1;have hzi:z=i:=(Option.some.inj h1).symm;rw[hzi]at h2;have:=(hfs i (Nat.lt_of_lt_of_le hi hl)).2 r v h2;rw[h3];rw[Addr.add_mid,Addr.add_mid]at this;rw[<-Nat.add_assoc];exact this
 obtain⟨b,o,rfl,hb⟩:=hat h0;exact⟨b,o,rfl,hb⟩
theorem open_byt{y:DataW H×List MemPlace}(h:DataW.trod enc prog W base (fun _=>true) held n 31 [v]=some y)(hw:∀n ∈ y.1.weights prog 31,n<=reachBytes): ∃(A:Option Addr) (len cap:Nat) (l:List Int),v=.slice A len cap/\Rd W .u8 A len cap l/\len<=140737488355328/\LowA A cap W.heap.size:=by
 have c5:prog.cellsOf 5=1:=by kernel_rfl
 have b5:prog.bytesOf 5=1:=by kernel_rfl
 rcases open_ints underlying31 underlying5 c5 h with⟨hcs,_⟩|⟨x,l,c,zs,hcs,_,hl,hm,hz,ey,hcell,_⟩
 · (obtain rfl:v=.slice none 0 0:=by simpa using hcs);exact⟨none,0,0,[],rfl,⟨rfl,Nat.le_refl _,fun h=>absurd h (Nat.lt_irrefl 0)⟩,by omega,fun h=>absurd h (Nat.lt_irrefl 0)⟩
 obtain rfl:v=.slice (some x) l c:=by simpa using hcs
 simp only[if_true]at hz;have hlw:l<=140737488355328:=by have:=hw (((lits .u8 (zs.take l)).length+(lits (H:=H) .u8 (zs.drop l)).length)*prog.bytesOf 5) (by rw[ey];simp only[DataW.weights,underlying31,List.mem_cons];exact .inl (by first|rfl|trivial));rw[b5]at this;simp only[lits,List.length_map,List.length_take,List.length_drop]at this;unfold reachBytes at this;omega
 have hat:0<c->∃b o,x=⟨b,o,none⟩/\b<W.heap.size:=fun h0=>by
  have:=hcell 0 o_;have e:x.add 0=x:=by obtain⟨b,o,s⟩:=x;rfl
  rw[e]at this;exact spot_of this
 refine⟨some x,l,c,zs.take l,rfl,⟨by rw[List.length_take];omega,hl,fun h0=>?_⟩,hlw,fun h0=>?_⟩
 · obtain⟨b,o,rfl,hb⟩:=hat h0;refine⟨b,o,rfl,hb,fun j v hv=>?_⟩;unfold ints at hv;rw[List.getElem?_map,List.getElem?_take]at hv;split at hv;(· rename_i hj;rw[List.getElem?_eq_getElem o_]at hv;simp only[Option.map_some,Option.some.injEq]at hv;subst hv;have:=hcell j o_;rw[List.getD_eq_getElem?_getD,List.getElem?_eq_getElem o_]at this;rw[Addr.add_mid]at this;exact this);simp at hv
 obtain⟨b,o,rfl,hb⟩:=hat h0;exact⟨b,o,rfl,hb⟩
instance acInh:Inhabited AcP:=⟨zac⟩
structure AcArg (W:World) (p:AcP):Prop where
 ops:OpsR W p.A p.nA p.cA p.lA
 nA:p.nA<=140737488355328
 opsLo:LowA p.A p.cA W.heap.size
 byt:Rd W .u8 p.Y p.nY p.cY p.lY
 nY:p.nY<=140737488355328
 bytLo:LowA p.Y p.cY W.heap.size
theorem slice_at{o:Option (DataW H×List MemPlace)}(hc:prog.cellsOf t=1)(hi:i<cs.length)(h:DataW.trod enc prog W base sp held m t ((cs.drop i).take (prog.cellsOf t))=o):DataW.trod enc prog W base sp held m t [cs[i]]=o:=by
 rw[hc,List.drop_eq_getElem_cons hi,List.take_succ_cons,List.take_zero]at h;exact h
theorem open_act{x:DataW H×List MemPlace}(h:DataW.trod enc prog W base (fun _=>true) held n 33 cs=some x)(hw:∀n ∈ x.1.weights prog 33,n<=reachBytes):∃p:AcP,AcArg W p/\cs=acC p:=by
 obtain⟨xs,m,_,ex,hlen,hl,hf⟩:=DataW.trod_struct underlying33 h;have c33:prog.cellsOf 33=7:=by kernel_rfl
 have c30:prog.cellsOf 30=1:=by kernel_rfl
 have c31:prog.cellsOf 31=1:=by kernel_rfl
 rw[c33]at hlen;have hl7:xs.length=7:=hl;obtain⟨z0,e0⟩:=int_at ((hf 0 _ rfl).trans (List.getElem?_eq_getElem o_));obtain⟨z1,e1⟩:=int_at ((hf 1 _ rfl).trans (List.getElem?_eq_getElem o_));obtain⟨z2,e2⟩:=int_at ((hf 2 _ rfl).trans (List.getElem?_eq_getElem o_));obtain⟨z3,e3⟩:=int_at ((hf 3 _ rfl).trans (List.getElem?_eq_getElem o_));obtain⟨z5,e5⟩:=int_at ((hf 5 _ rfl).trans (List.getElem?_eq_getElem o_));have g4:=slice_at (i:=4) c30 o_ ((hf 4 _ rfl).trans (List.getElem?_eq_getElem o_));have g6:=slice_at (i:=6) c31 o_ ((hf 6 _ rfl).trans (List.getElem?_eq_getElem o_));have hsub:∀(j:Nat) (t:TypeId) (hj:j<xs.length),[(3:TypeId),3,3,3,30,3,31][j]? = some t->∀n ∈ (xs[j]).1.weights prog t,n<=reachBytes:=fun j t hj ht n hn=>by refine hw n ?_;rw[ex];simp only[DataW.weights,underlying33];exact DataW.weights_mem_each (j:=j) (t:=t) (d:=(xs[j]).1) ht (by rw[List.getElem?_map,List.getElem?_eq_getElem hj];rfl) n hn
 obtain⟨A,nA,cA,lA,ev4,a1,a2,a3⟩:=open_ops g4 (hsub 4 30 o_ rfl);obtain⟨Y,nY,cY,lY,ev6,y1,y2,y3⟩:=open_byt g6 (hsub 6 31 o_ rfl);refine⟨⟨z0,z1,z2,z3,A,nA,cA,lA,z5,Y,nY,cY,lY⟩,⟨a1,a2,a3,y1,y2,y3⟩,List.ext_getElem? fun i=>?_⟩
 match i with
 | 0=>exact e0
 | 1=>exact e1
 | 2=>exact e2
 | 3=>exact e3
 | 4=>rw[List.getElem?_eq_getElem o_,ev4];rfl
 | 5=>exact e5
 | 6=>rw[List.getElem?_eq_getElem o_,ev6];rfl
 | j+7=>rw[List.getElem?_eq_none o_,List.getElem?_eq_none (by simp[acC])]
theorem acts_arg{a:Option Addr}{len cap:Nat}{d:DataW H}{ps:List MemPlace}(h:DataW.Trod enc prog W base (fun _=>true) held 22 (.slice a len cap) d ps)(hw:∀n ∈ d.weights prog 22,n<=reachBytes):∃x:Nat->AcP,ActsR W a len cap x:=by
 obtain⟨fuel,hf⟩:=h;rcases open_slice underlying22 hf with⟨hcs,_⟩|⟨x,l,c,m,n,D,Pl,hcs,_,hl,hm,hmm,ed,hr⟩
 · simp[Value.cells]at hcs;obtain⟨rfl,rfl,rfl⟩:=hcs;exact⟨fun _=>zac,⟨Nat.le_refl _,fun h=>absurd h (Nat.lt_irrefl 0),fun i hi=>absurd hi (Nat.not_lt_zero i),fun i hi=>absurd hi (Nat.not_lt_zero i),fun i hi=>absurd hi (Nat.not_lt_zero i),fun i hi=>absurd hi (Nat.not_lt_zero i),fun i hi=>absurd hi (Nat.not_lt_zero i),fun i hi=>absurd hi (Nat.not_lt_zero i)⟩⟩
 · simp[Value.cells]at hcs;obtain⟨rfl,rfl,rfl⟩:=hcs;(have c33:prog.cellsOf 33=7:=by kernel_rfl);rw[c33]at hr;simp only[if_true]at hmm;have hd:d=.slice ((List.range len).map D) ((List.range (m-len)).map fun j=>D (len+j)):=congrArg Prod.fst ed
   have each:∀i,i<len->∃p:AcP,AcArg W p/\∀j v,(acC p)[j]? = some v->W.cell? ((x.add (i*7)).add j)=some v:=by
    intro i hi
    obtain⟨cs',h1,h2⟩:=hr i o_
    obtain⟨p,hp,rfl⟩:=open_act h2 (fun n hn=>hw n (by
     rw[hd]
     simp only[DataW.weights,underlying22,List.mem_cons,List.mem_append]
     exact .inr (.inl (weights_all (List.mem_map.2 ⟨i,List.mem_range.2 hi,rfl⟩) n hn))))
    obtain⟨_,hlen,hcell⟩:=World.cells?_some h1
    refine⟨p,hp,fun j v hv=>?_⟩
    have hj:j<7:=by rw[<-hlen];exact(List.getElem?_eq_some_iff.1 hv).1
    rw[hcell j hj,hv]
   obtain⟨f,hfs⟩:=choose_lt each;refine⟨f,⟨hl,fun h0=>?_,fun i hi=>(hfs i hi).1.ops,fun i hi=>(hfs i hi).1.nA,fun i hi=>(hfs i hi).1.opsLo,fun i hi=>(hfs i hi).1.byt,fun i hi=>(hfs i hi).1.nY,fun i hi=>(hfs i hi).1.bytLo⟩⟩;have h00:=(hfs 0 h0).2 0 (.int .i64 (f 0).kd) rfl;rw[Nat.zero_mul]at h00;(have e:(x.add 0).add 0=x:=by obtain⟨b,o,s⟩:=x;rfl);rw[e]at h00;obtain⟨b,o,rfl,hb⟩:=spot_of h00;refine⟨b,o,rfl,hb,fun i hi j v hv=>?_⟩;have:=(hfs i hi).2 j v hv;rw[Addr.add_mid,Addr.add_mid]at this;exact this
end
end Go.Proofs.YtppjnahcnofokaaGreat.T
