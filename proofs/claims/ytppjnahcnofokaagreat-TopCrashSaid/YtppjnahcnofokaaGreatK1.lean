import Derived.Test.YtppjnahcnofokaaGreatK0
import Derived.Test.YtppjnahcnofokaaGreatProg
set_option maxRecDepth 100000
set_option maxHeartbeats 32000000
set_option linter.unusedSimpArgs false
set_option linter.unusedVariables false
set_option linter.unnecessarySimpa false
namespace Go.Proofs.YtppjnahcnofokaaGreat.T
open Go.RowKit
open Go.Proofs.Tryz
variable{k:IntKind}{a:Act}{b i n B base m fuel D B':Nat}{l ch p t0 q:List Int}{w w' w1 w2:World}{t:TypeId}{P:Int->Int->Prop}{cs:Array Value}{A A':Option Addr}{o oi:Oper}{e s f st fl:Int}{xs:List (List Int×Int×Int×Int)}{ops:Array Oper}{rest l0:List Oper}{v:Value}{r:Option Nat}{rs rs2:List (Option Addr×Nat×Nat×List Int)}{E:Prop}{vs l3:List Value}{ad ai go:List Bool}{N:Act->Prop}{place:Nat->Option (Nat×Nat)}{bad:Bool}{es es':List (Int×List Int)}{T:List TypeId}{ps:List (List Int)}
theorem ret_int{a b:Int}(h:a=b):Ending.returned (.int k a)=.returned (.int k b):=by rw[h]
theorem isPlace_any(n:Int)(w:World):Calls prog 25 #[.int .i64 n] w fun e w'=>e=.returned (.bool (decide (0<=n/\n<8)))/\w=w':=by
 by_cases h:0<=n<;>by_cases h1:n<8
 all_goals
  go_enter func25,ntmps25
  go_wp2
  go_ret
  exact⟨by simp[h,h1],rfl⟩
theorem isLeaf_any(n:Int)(w:World):Calls prog 196 #[.int .i64 n] w fun e w'=>e=.returned (.bool (decide (0<=n/\n<8)))/\w=w':=by
 by_cases h:0<=n<;>by_cases h1:n<8
 all_goals
  go_enter func196,ntmps196
  go_wp2
  go_ret
  exact⟨by simp[h,h1],rfl⟩
theorem isNode_any(n:Int)(w:World):Calls prog 198 #[.int .i64 n] w fun e w'=>e=.returned (.bool (decide (0<=n/\n<15)))/\w=w':=by
 by_cases h:0<=n<;>by_cases h1:n<15
 all_goals
  go_enter func198,ntmps198
  go_wp2
  go_ret
  exact⟨by simp[h,h1],rfl⟩
theorem isNum_any(n:Int)(w:World):Calls prog 140 #[.int .i64 n] w fun e w'=>e=.returned (.bool (decide (0<=n/\n<2147483579)))/\w=w':=by
 by_cases h:0<=n<;>by_cases h1:n<2147483579
 all_goals
  go_enter func140,ntmps140
  go_wp2
  go_ret
  exact⟨by simp[h,h1],rfl⟩
theorem sNum_any(n:Int)(w:World):Calls prog 195 #[.int .i64 n] w fun e w'=>e=.returned (.bool (decide (0<=n/\n<1073741789)))/\w=w':=by
 by_cases h:0<=n<;>by_cases h1:n<1073741789
 all_goals
  go_enter func195,ntmps195
  go_wp2
  go_ret
  exact⟨by simp[h,h1],rfl⟩
theorem mul_any(a b:Int)(w:World)(h0:0<=a/\a<2147483579)(h1:0<=b/\b<2147483579):Calls prog 141 #[.int .i64 a,.int .i64 b] w fun e w'=>e=.returned (.int .i64 (a*b % 2147483579))/\w=w':=by
 have ha:=hd_ (show decide (0<=a/\a<2147483579)=true by simpa using h0);have hb:=hd_ (show decide (0<=b/\b<2147483579)=true by simpa using h1);have hp:0<=a*b:=Int.mul_nonneg h0.1 h1.1;have hq:a*b<=2147483579*2147483579:=Int.mul_le_mul o_ o_ h1.1 o_;obtain⟨p,hpp⟩:∃p,a*b=p:=⟨_,rfl⟩;rw[hpp]at hp hq;have HPP:=hd_ hpp;clear hpp h0 h1;go_enter func141,ntmps141
 go_wp2_with fail;refine(isNum_any _ _).mono ?_;rintro e w' ⟨rfl,rfl⟩;rw[ha.out];go_wp2_with fail;refine(isNum_any _ _).mono ?_;rintro e w' ⟨rfl,rfl⟩;rw[hb.out];go_wp2_with fail;go_ret;refine⟨ret_int ?_,rfl⟩;have hw:wrap64 (a*b)=a*b:=by rw[HPP.out];unfold wrap64;omega
 rw[hw,HPP.out];exact Int.tmod_eq_emod_of_nonneg hp
def powR:Nat->Int->Int->Int->Int
 | 0,n,_,_=>n
 | k+1,n,b,e=>if 0<e then powR k (if (bits BinOp.and IntKind.i64 e 1==1)=true then n*b % 2147483579 else n) (b*b % 2147483579) (e / 2) else n
def powF(b e:Int):Int:=powR 31 1 b e
theorem pow_any(b e:Int)(w:World)(h0:0<=b/\b<2147483579)(h1:0<=e/\e<=1073741789):Calls prog 83 #[.int .i64 b,.int .i64 e] w fun r w'=>r=.returned (.int .i64 (powF b e))/\w=w':=by
 have hb:=hd_ (show decide (0<=b/\b<2147483579)=true by simpa using h0);obtain⟨R,hR⟩:=ex_ (powF b e);have HR:=hd_ hR;rw[<-hR];clear hR;obtain⟨h1,h2⟩:=h1;go_enter func83,ntmps83
 go_wp2_with fail;refine(isNum_any _ _).mono ?_;rintro e w' ⟨rfl,rfl⟩;rw[hb.out];go_wp2_with fail;go_loopw [0,1,5] (fun vb ve vn wr=>∃(k:Nat) (n b e:Int),vb=.int .i64 b/\ve=.int .i64 e/\vn=.int .i64 n/\0<=e/\e<2 ^ k/\Hid (0<=n/\n<2147483579)/\Hid (0<=b/\b<2147483579)/\Hid (powR k n b e=R)/\w=wr) (fun _ ve _ _=>(intOf ve).toNat)
 case atStart=>exact⟨31,1,b,e,rfl,rfl,rfl,h1,by omega,(by show _/\_;omega),h0,HR.out.symm,rfl⟩
 case round=>
  obtain⟨k,n,b,e,rfl,rfl,rfl,he0,he1,hn,hb',hr,rfl⟩:=hrel;by_cases hlt:0<e
  · cases k with
    | zero=>exfalso;simp at he1;omega
    | succ k=>
     have hb2:0<=b*b % 2147483579/\b*b % 2147483579<2147483579:=⟨Int.emod_nonneg _ o_,Int.emod_lt_of_pos _ o_⟩;have HB2:=hd_ hb2;have hn2:0<=n*b % 2147483579/\n*b % 2147483579<2147483579:=⟨Int.emod_nonneg _ o_,Int.emod_lt_of_pos _ o_⟩;have HN2:=hd_ hn2;have hr':=hr.out;unfold powR at hr';rw[if_pos hlt]at hr';(have HE:Hid (e / 2<2 ^ k):=by show _<_;rw[Int.pow_succ]at he1;omega);clear hb2 hn2 hr
     cases hq:(bits BinOp.and IntKind.i64 e 1==1) with
     | true=>
      rw[if_pos hq]at hr';have HR':=hd_ hr';clear hr';go_wp2_with fail;refine(mul_any _ _ _ hn.out hb'.out).mono ?_;rintro _ w' ⟨rfl,rfl⟩;go_wp2_with fail;refine(mul_any _ _ _ hb'.out hb'.out).mono ?_;rintro _ w' ⟨rfl,rfl⟩;go_wp2_with fail;go_roundw;(case rel=>exact⟨k,_,_,e / 2,rfl,by go_num,rfl,by omega,HE.out,HN2,HB2,HR',trivial⟩);case measure=>simp[intOf];omega
     | false=>
      rw[if_neg (by simp[hq])]at hr';have HR':=hd_ hr';clear hr';go_wp2_with fail;refine(mul_any _ _ _ hb'.out hb'.out).mono ?_;rintro _ w' ⟨rfl,rfl⟩;go_wp2_with fail;go_roundw;(case rel=>exact⟨k,_,_,e / 2,rfl,by go_num,rfl,by omega,HE.out,hn,HB2,HR',trivial⟩);case measure=>simp[intOf];omega
  have hr':=hr.out;have hn':n=R:=by
   cases k with
   | zero=>exact hr'
   | succ k=>unfold powR at hr';rw[if_neg hlt]at hr';exact hr'
  subst hn';clear hr hr';go_wp2_with fail;go_ret;exact⟨rfl,rfl⟩
def pubB(y:Int):Bool:=decide (1<y)&&decide (y<2147483579)&&(powF y 1073741789==1)
theorem pIs_any(y:Int)(w:World):Calls prog 182 #[.int .i64 y] w fun r w'=>r=.returned (.bool (pubB y))/\w=w':=by
 by_cases h1:1<y
 · by_cases h2:y<2147483579;(· (have HP:Hid (pubB y=(powF y 1073741789==1)):=by show _=_;unfold pubB;simp[h1,h2]);obtain⟨q,hq⟩:∃q,powF y 1073741789=q:=⟨_,rfl⟩;have HQ:=hd_ hq;clear hq;(go_enter func182,ntmps182);go_wp2_with fail;refine(pow_any _ _ _ ⟨by omega,h2⟩ ⟨by omega,by omega⟩).mono ?_;rintro _ w' ⟨rfl,rfl⟩;rw[HQ.out];go_wp2_with fail;go_ret;exact⟨by rw[HP.out,HQ.out];rfl,rfl⟩);(have HP:Hid (pubB y=false):=by show _=_;unfold pubB;simp[h2]);(go_enter func182,ntmps182);go_wp2_with fail;go_ret;exact⟨by rw[HP.out];simp[h2],rfl⟩
 have HP:Hid (pubB y=false):=by show _=_;unfold pubB;simp[h1]
 go_enter func182,ntmps182
 go_wp2_with fail;go_ret;exact⟨by rw[HP.out];simp[h1],rfl⟩
def keyB(y:Int):Bool:=y==0 || pubB y
theorem isKey_any(y:Int)(w:World):Calls prog 209 #[.int .i64 y] w fun r w'=>r=.returned (.bool (keyB y))/\w=w':=by
 by_cases h:y=0
 · subst h;(go_enter func209,ntmps209);go_wp2_with fail;go_ret;exact⟨rfl,rfl⟩
 have hb:(y==0)=false:=beq_eq_false_iff_ne.2 h;have HP:Hid (keyB y=pubB y):=by show _=_;unfold keyB;rw[hb];rfl
 clear h;go_enter func209,ntmps209
 go_wp2_with fail;refine(pIs_any _ _).mono ?_;rintro _ w' ⟨rfl,rfl⟩;obtain⟨q,hq⟩:∃q,pubB y=q:=⟨_,rfl⟩;have HQ:=hd_ hq;rw[hq];clear hq;go_wp2_with fail;go_ret;exact⟨by rw[HP.out,HQ.out];rfl,rfl⟩
theorem u64_nonneg(x:Int):0<=IntKind.u64.wrap x:=by unfold IntKind.wrap;simp[IntKind.signed,IntKind.bits];omega
theorem bits_nonneg(op:BinOp)(x y:Int):0<=bits op .u64 x y:=by unfold bits;exact u64_nonneg _
def rotF(x k:Int):Int:=bits .or .u64 (IntKind.u64.wrap (x*2 ^ min (bits .and .u64 (IntKind.u64.wrap k) 63).toNat 64)) (x / 2 ^ min (IntKind.u64.wrap (64-bits .and .u64 (IntKind.u64.wrap k) 63)).toNat 64)
theorem rot_any(x k:Int)(w:World):Calls prog 208 #[.int .u64 x,.int .i64 k] w fun r w'=>r=.returned (.int .u64 (rotF x k))/\w=w':=by
 have hs:∀(op:BinOp) (x y:Int) (w:World),(Op.shift .shl .u64 x .u64 (bits op .u64 y 63)).run prog w=.ok (.int .u64 (IntKind.u64.wrap (x*2 ^ min (bits op .u64 y 63).toNat 64))) w:=fun op x y w=>by unfold Op.shift;rw[if_neg (by have:=bits_nonneg op y 63;omega)];rfl
 have hr:∀(x y:Int) (w:World),(Op.shift .shr .u64 x .u64 (IntKind.u64.wrap y)).run prog w=.ok (.int .u64 (x.fdiv (2 ^ min (IntKind.u64.wrap y).toNat 64))) w:=fun x y w=>by unfold Op.shift;rw[if_neg (by have:=u64_nonneg y;omega)];rfl
 go_enter func208,ntmps208
 go_wp2_with fail;go_ret;exact⟨rfl,rfl⟩
def turnF(x a b:Int):Int:=bits .xor .u64 (bits .xor .u64 x (rotF x (wrap64 (-a)))) (rotF x (wrap64 (-b)))
theorem turned_any(x a b:Int)(w:World):Calls prog 188 #[.int .u64 x,.int .i64 a,.int .i64 b] w fun r w'=>r=.returned (.int .u64 (turnF x a b))/\w=w':=by
 go_enter func188,ntmps188
 go_wp2_with fail;refine(rot_any _ _ _).mono ?_;rintro _ w' ⟨rfl,rfl⟩;go_wp2_with fail;refine(rot_any _ _ _).mono ?_;rintro _ w' ⟨rfl,rfl⟩;go_wp2_with fail;go_ret;exact⟨rfl,rfl⟩
theorem above_any(l k:Nat)(w:World)(hl:l<8)(hk:k<=3):Calls prog 197 #[.int .i64 l,.int .i64 k] w fun r w'=>r=.returned (.int .i64 ((2*(l / 2 ^ k*2 ^ k)+2 ^ k-1:Nat):Int))/\w=w':=by
 have e1:l=0\/l=1\/l=2\/l=3\/l=4\/l=5\/l=6\/l=7:=by omega
 have e2:k=0\/k=1\/k=2\/k=3:=by omega
 rcases e1 with rfl|rfl|rfl|rfl|rfl|rfl|rfl|rfl<;>rcases e2 with rfl|rfl|rfl|rfl
 all_goals
  clear hl hk
  go_enter func197,ntmps197
  go_wp2_with fail
  go_ret
  exact⟨ret_int (by decide +kernel),rfl⟩
end Go.Proofs.YtppjnahcnofokaaGreat.T
namespace Go.Proofs.YtppjnahcnofokaaGreat.T
open Go.RowKit
open Go.Proofs.Tryz
variable{k:IntKind}{a:Act}{b i n B base m fuel D B':Nat}{l ch p t0 q:List Int}{w w' w1 w2:World}{t:TypeId}{P:Int->Int->Prop}{cs:Array Value}{A A':Option Addr}{o oi:Oper}{e s f st fl:Int}{xs:List (List Int×Int×Int×Int)}{ops:Array Oper}{rest l0:List Oper}{v:Value}{r:Option Nat}{rs rs2:List (Option Addr×Nat×Nat×List Int)}{E:Prop}{vs l3:List Value}{ad ai go:List Bool}{N:Act->Prop}{place:Nat->Option (Nat×Nat)}{bad:Bool}{es es':List (Int×List Int)}{T:List TypeId}{ps:List (List Int)}
attribute [local go_sem ↓] Go.wp_at_zero Go.wp_at_succ
def ints(k:IntKind)(l:List Int):List Value:=l.map (.int k)
theorem ints_len(k:IntKind)(l:List Int):(ints k l).length=l.length:=by simp[ints]
theorem ints_get{x:Int}(h:l[i]? = some x):(ints k l)[i]? = some (.int k x):=by simp[ints,h]
def Blk(w:World)(b:Nat)(k:IntKind)(t:TypeId)(l:List Int):Prop:=w.heap[b]? = some (.cells (ints k l).toArray t (0,0))
theorem Blk.lt(h:Blk w b k t l):b<w.heap.size:=(Array.getElem?_eq_some_iff.1 h).1
theorem Blk.cell(h:Blk w b k t l){x:Int}(hx:l[i]? = some x):w.cell? ⟨b,i,none⟩=some (.int k x):=by
 rw[cell_of_row _ _ _ _ _ _ h];simpa using ints_get hx
theorem Blk.free(h:Blk w b k t l)(i:Nat):w.frozen? ⟨b,i,none⟩=false:=by
 unfold Blk at h;simp[World.frozen?,h]
theorem Blk.range(h:Blk w b k t l):w.rangeAt b 0 (ints k l):=fun j v hv=>by
 rw[Nat.zero_add,cell_of_row _ _ _ _ _ _ h]
 simpa using hv
theorem Blk.set(h:Blk w b k t l)(i:Nat)(x:Int):Blk (w.setCell ⟨b,i,none⟩ (.int k x)) b k t (l.set i x):=by
 have hlt:=h.lt;unfold Blk at h ⊢;have h':w.heap[b]=.cells (ints k l).toArray t (0,0):=by simpa[Array.getElem?_eq_getElem hlt] using h
 show(w.heap.modify b _)[b]? = _;rw[Array.getElem?_eq_getElem (by simpa using hlt),Array.getElem_modify_self,h'];simp[ints]
theorem Blk.other{g:Nat}(h:Blk w b k t l)(hne:g≠b)(i:Nat)(v:Value):Blk (w.setCell ⟨g,i,none⟩ v) b k t l:=
 (Below.heap_setCell _ _ _ _ hne.symm).trans h
theorem Blk.drew(h:Blk w b k t l):Blk w.drew b k t l:=h
theorem still_tail{P:Program}{id:Nat}{Q:Exit->Act->World->Prop}{l:List Oper}(n:Nat)(hm:P.follows .mixedOrders=true)(hB:Region.lexTailB .any l.toArray n=true)(h:∀w1,w.drew=w1->wpStill P l.toArray w1 (fun a'=>wpList P l.toArray Q (l.drop n) a' w1) (l.take n) a):(Code.region id l.toArray true).wp P Q a w:=
 wp_region_still_tail n hm hB (h w.drew rfl)
theorem mixed:prog.follows .mixedOrders=true:=by kernel_rfl
def Row(w:World)(b:Nat)(k:IntKind)(t:TypeId)(n:Nat):Prop:=∃l:List Int,l.length=n/\Blk w b k t l
theorem Row.new(l:List Int)(b:Nat)(h:cs=(ints k l).toArray)(hb:w.heap.size=b):Row (w.alloc (.cells cs t)) b k t l.length:=by
 subst h hb;exact⟨l,rfl,heap_alloc_new _ _⟩
theorem Row.alloc(h:Row w b k t n)(o:Obj):Row (w.alloc o) b k t n:=by
 obtain⟨l,hl,hb⟩:=h;exact⟨l,hl,(((Below.refl w.heap.size w).alloc (Nat.le_refl _) o).block b hb.lt).trans hb⟩
theorem Row.below(h:Row w b k t n)(hB:Below B w w')(hb:b<B):Row w' b k t n:=by
 obtain⟨l,hl,h⟩:=h;exact⟨l,hl,(hB.block b hb).trans h⟩
theorem Row.lt(h:Row w b k t n):b<w.heap.size:=by
 obtain⟨l,hl,h⟩:=h;exact h.lt
theorem Row.drew(h:Row w b k t n):Row w.drew b k t n:=h
theorem Row.set(h:Row w b k t n)(i:Nat)(x:Int):Row (w.setCell ⟨b,i,none⟩ (.int k x)) b k t n:=by
 obtain⟨l,hl,h⟩:=h;exact⟨_,by rw[List.length_set];exact hl,h.set i x⟩
theorem Row.other{g:Nat}(h:Row w b k t n)(hne:g≠b)(i:Nat)(v:Value):Row (w.setCell ⟨g,i,none⟩ v) b k t n:=by
 obtain⟨l,hl,h⟩:=h;exact⟨l,hl,h.other hne i v⟩
theorem Row.at(h:Row w b k t n)(i:Nat)(hi:i<n):∃x,w.cell? ⟨b,i,none⟩=some (.int k x):=by
 obtain⟨l,hl,h⟩:=h;exact⟨_,h.cell (List.getElem?_eq_getElem o_)⟩
theorem Row.free(h:Row w b k t n)(i:Nat):w.frozen? ⟨b,i,none⟩=false:=by
 obtain⟨l,hl,h⟩:=h;exact h.free i
theorem len5(h:l.length=5):∃a b c d e,l=[a,b,c,d,e]:=by
 match l,h with
 | [a,b,c,d,e],_=>exact⟨a,b,c,d,e,rfl⟩
theorem Blk.loads{u:TypeDesc}(h:Blk w b k t l)(hu:prog.underlying t=some u)(hagg:u.isRow=true)(hi:(prog.info? t).map (·.size)=some l.length):(loadVar t ⟨b,0,none⟩).run prog w=.ok (.agg (ints k l).toArray) w:=
 run_loadVar_mid w b 0 t (ints k l) _ h.range hu hagg (by rw[ints_len];exact hi)
theorem info154:(prog.info? 154).map (·.size)=some 5:=by kernel_rfl
theorem wr1:IntKind.i64.wrap 1=1:=by decide
theorem wr2:IntKind.i64.wrap 2=2:=by decide
theorem wr3:IntKind.i64.wrap 3=3:=by decide
theorem wr4:IntKind.i64.wrap 4=4:=by decide
theorem wr5:IntKind.i64.wrap 5=5:=by decide
theorem tm1:(1:Int).tmod 5=1:=by decide
theorem tm2:(2:Int).tmod 5=2:=by decide
theorem tm3:(3:Int).tmod 5=3:=by decide
theorem tm4:(4:Int).tmod 5=4:=by decide
theorem tm5:(5:Int).tmod 5=0:=by decide
theorem usg:IntKind.u64.signed=false:=rfl
attribute [local go_sem] usg wr1 wr2 wr3 wr4 wr5 tm1 tm2 tm3 tm4 tm5
theorem round_any(a b c d e:Int)(r:Nat)(w:World)(hr:r<12):Calls prog 144 #[.agg #[.int .u64 a,.int .u64 b,.int .u64 c,.int .u64 d,.int .u64 e],.int .i64 r] w fun r w'=>(∃a b c d e,r=.returned (.agg #[.int .u64 a,.int .u64 b,.int .u64 c,.int .u64 d,.int .u64 e]))/\Bl w w':=by
 go_enter func144,ntmps144
 go_wp2_with fail;go_loopw [34] (fun v wr=>∃(k:Int),v=.int .i64 k/\0<=k/\k<=5/\Hid (Row wr w.heap.size .u64 154 5)/\Hid (Row wr (w.heap.size+1+1) .u64 154 5)/\Hid (Row wr (w.heap.size+1) .u64 154 5)/\Hid (Bl w wr)) (fun v _=>(5-intOf v).toNat)
 case atStart=>
  exact⟨0,rfl,by omega,by omega,((Row.new [_,_,_,_,_] _ rfl rfl).alloc _).alloc _,Row.new [_,_,_,_,_] _ rfl s_,(Row.new [_,_,_,_,_] _ rfl s_).alloc _,(((Below.refl _ _).alloc (Nat.le_refl _) _).alloc s_ _).alloc s1_ _⟩
 case round=>
  obtain⟨k,rfl,hk0,hk,hX,hY,hZ,hb⟩:=hrel;by_cases hlt:k<5
  · obtain⟨x0,c0⟩:=hX.out.at 0 o_;obtain⟨x1,c1⟩:=hX.out.at 1 o_;obtain⟨x2,c2⟩:=hX.out.at 2 o_;obtain⟨x3,c3⟩:=hX.out.at 3 o_;obtain⟨x4,c4⟩:=hX.out.at 4 o_;(have hk':k=0\/k=1\/k=2\/k=3\/k=4:=by omega);have hY0:=hY.out.at;have ey0:=hY.out.free;(have hne:w.heap.size+1+1≠w.heap.size:=by omega);(rcases hk' with rfl|rfl|rfl|rfl|rfl);(case' inl=>obtain⟨y,hy⟩:=hY0 0 o_;have ey:=ey0 0);(case' inr.inl=>obtain⟨y,hy⟩:=hY0 1 o_;have ey:=ey0 1);(case' inr.inr.inl=>obtain⟨y,hy⟩:=hY0 2 o_;have ey:=ey0 2);(case' inr.inr.inr.inl=>obtain⟨y,hy⟩:=hY0 3 o_;have ey:=ey0 3);(case' inr.inr.inr.inr=>obtain⟨y,hy⟩:=hY0 4 o_;have ey:=ey0 4)
    all_goals
     clear hlt hk hY0 ey0 hk0
     go_wp2_with fail
     refine still_tail 12 mixed kk (fun W4 hW4=>?_)
     refine mD ?_
     replace hX:Hid (Row W4 w.heap.size .u64 154 5):=by rw[<-hW4];exact hX.out
     replace hY:Hid (Row W4 (w.heap.size+1+1) .u64 154 5):=by rw[<-hW4];exact hY.out
     replace hZ:Hid (Row W4 (w.heap.size+1) .u64 154 5):=by rw[<-hW4];exact hZ.out
     replace hb:Hid (Bl w W4):=by rw[<-hW4];exact hb.out.drew
     have hd:∀a,wr.cell? a=W4.cell? a:=fun a=>by rw[<-hW4];rfl
     have hf:∀a,wr.frozen? a=W4.frozen? a:=fun a=>by rw[<-hW4];rfl
     rw[hd]at c0 c1 c2 c3 c4 hy
     rw[hf]at ey
     clear hd hf
     clear hW4
     repeat still_step
     refine wpStill_nil ?_
     go_wp2_with fail
     go_roundw
     case rel=>exact⟨_,rfl,by omega,by omega,hX.out.other hne _ _,hY.out.set _ _,hZ.out.other o_ _ _,((hb.out.setCell (by show w.heap.size<=w.heap.size+1+1;omega) _))⟩
     case measure=>simp[intOf]
  have hke:k=5:=by omega
  subst hke;clear hlt hk hk0;go_wp2_with fail;go_loopw [50] (fun v wr=>∃(k:Int),v=.int .i64 k/\0<=k/\k<=5/\Hid (Row wr w.heap.size .u64 154 5)/\Hid (Row wr (w.heap.size+1+1) .u64 154 5)/\Hid (Row wr (w.heap.size+1) .u64 154 5)/\Hid (Bl w wr)) (fun v _=>(5-intOf v).toNat)
  case atStart=>exact⟨0,rfl,by omega,by omega,hX.out,hY.out,hZ.out,hb.out⟩
  case round=>
   clear hX hY hZ hb;obtain⟨k,rfl,hk0,hk,hX,hY,hZ,hb⟩:=hrel;by_cases hlt:k<5
   · obtain⟨x0,c0⟩:=hY.out.at 0 o_;obtain⟨x1,c1⟩:=hY.out.at 1 o_;obtain⟨x2,c2⟩:=hY.out.at 2 o_;obtain⟨x3,c3⟩:=hY.out.at 3 o_;obtain⟨x4,c4⟩:=hY.out.at 4 o_;(have hk':k=0\/k=1\/k=2\/k=3\/k=4:=by omega);have hY0:=hX.out.at;have ey0:=hX.out.free;(have hne:w.heap.size+1+1≠w.heap.size:=by omega);(rcases hk' with rfl|rfl|rfl|rfl|rfl);(case' inl=>obtain⟨y,hy⟩:=hY0 0 o_;have ey:=ey0 0);(case' inr.inl=>obtain⟨y,hy⟩:=hY0 1 o_;have ey:=ey0 1);(case' inr.inr.inl=>obtain⟨y,hy⟩:=hY0 2 o_;have ey:=ey0 2);(case' inr.inr.inr.inl=>obtain⟨y,hy⟩:=hY0 3 o_;have ey:=ey0 3);(case' inr.inr.inr.inr=>obtain⟨y,hy⟩:=hY0 4 o_;have ey:=ey0 4)
     all_goals
      clear hlt hk hY0 ey0 hk0
      go_wp2_with fail
      refine still_tail 10 mixed kk (fun W4 hW4=>?_)
      refine mD ?_
      replace hX:Hid (Row W4 w.heap.size .u64 154 5):=by rw[<-hW4];exact hX.out
      replace hY:Hid (Row W4 (w.heap.size+1+1) .u64 154 5):=by rw[<-hW4];exact hY.out
      replace hZ:Hid (Row W4 (w.heap.size+1) .u64 154 5):=by rw[<-hW4];exact hZ.out
      replace hb:Hid (Bl w W4):=by rw[<-hW4];exact hb.out.drew
      have hd:∀a,wr.cell? a=W4.cell? a:=fun a=>by rw[<-hW4];rfl
      have hf:∀a,wr.frozen? a=W4.frozen? a:=fun a=>by rw[<-hW4];rfl
      rw[hd]at c0 c1 c2 c3 c4 hy
      rw[hf]at ey
      clear hd hf
      clear hW4
      repeat still_step
      refine wpStill_nil ?_
      go_wp2_with fail
      go_roundw
      case rel=>exact⟨_,rfl,by omega,by omega,hX.out.set _ _,hY.out.other o_ _ _,hZ.out.other o_ _ _,(hb.out.setCell (Nat.le_refl _) _)⟩
      case measure=>simp[intOf]
   (have hke:k=5:=by omega);subst hke;clear hlt hk hk0;obtain⟨x0,c0⟩:=hX.out.at 0 o_;obtain⟨x1,c1⟩:=hX.out.at 1 o_;obtain⟨x2,c2⟩:=hX.out.at 2 o_;obtain⟨x3,c3⟩:=hX.out.at 3 o_;obtain⟨x4,c4⟩:=hX.out.at 4 o_;have f0:=hX.out.free 0;have f1:=hX.out.free 1;have f2:=hX.out.free 2;have f3:=hX.out.free 3;obtain⟨z0,d0⟩:=hZ.out.at 0 o_;obtain⟨z1,d1⟩:=hZ.out.at 1 o_;obtain⟨z2,d2⟩:=hZ.out.at 2 o_;obtain⟨z3,d3⟩:=hZ.out.at 3 o_;obtain⟨z4,d4⟩:=hZ.out.at 4 o_;go_wp2_with fail;generalize hW:World.setCell _ _ _=W2;(have HX:Hid (Row W2 w.heap.size .u64 154 5):=by rw[<-hW];exact(((hX.out.set 1 _).set 0 _).set 3 _).set 2 _);(have HZ:Hid (Row W2 (w.heap.size+1) .u64 154 5):=by rw[<-hW];exact(((hZ.out.other o_ 1 _).other o_ 0 _).other o_ 3 _).other o_ 2 _);(have HB:Hid (Bl w W2):=by rw[<-hW];exact(((hb.out.setCell (Nat.le_refl _) _).setCell (Nat.le_refl _) _).setCell (Nat.le_refl _) _).setCell (Nat.le_refl _) _);clear hW c0 c1 c2 c3 c4 f0 f1 f2 f3 d0 d1 d2 d3 d4 hX hY hZ hb;refine still_tail 15 mixed kk (fun W4 hW4=>?_);refine mD ?_;(replace HX:Hid (Row W4 w.heap.size .u64 154 5):=by rw[<-hW4];exact HX.out);(replace HZ:Hid (Row W4 (w.heap.size+1) .u64 154 5):=by rw[<-hW4];exact HZ.out);(replace HB:Hid (Bl w W4):=by rw[<-hW4];exact HB.out.drew);clear hW4;obtain⟨y0,c0⟩:=HX.out.at 0 o_;obtain⟨y1,c1⟩:=HX.out.at 1 o_;obtain⟨y2,c2⟩:=HX.out.at 2 o_;obtain⟨y3,c3⟩:=HX.out.at 3 o_;obtain⟨y4,c4⟩:=HX.out.at 4 o_;obtain⟨z0,d0⟩:=HZ.out.at 0 o_;obtain⟨z1,d1⟩:=HZ.out.at 1 o_;obtain⟨z2,d2⟩:=HZ.out.at 2 o_;obtain⟨z3,d3⟩:=HZ.out.at 3 o_;obtain⟨z4,d4⟩:=HZ.out.at 4 o_;have f0:=HZ.out.free 0;have f1:=HZ.out.free 1;have f2:=HZ.out.free 2;have f3:=HZ.out.free 3;have f4:=HZ.out.free 4;(repeat (first|still_step|(refine wpStill_step (fun K hK=>?_);go_simp;refine⟨_,((turned_any _ _ _ _).mono fun _ _ h=>⟨h.1,h.2.symm⟩),hK _ ?_⟩;clear hK K)));refine wpStill_nil ?_;go_wp2_with fail;generalize hW3:World.setCell _ _ _=W3;(have HZ3:Row W3 (w.heap.size+1) .u64 154 5:=by rw[<-hW3];exact((((HZ.out.set 0 _).set 1 _).set 2 _).set 3 _).set 4 _);(have HB3:Hid (Bl w W3):=by rw[<-hW3];exact((((HB.out.setCell (Nat.le_succ _) _).setCell (Nat.le_succ _) _).setCell (Nat.le_succ _) _).setCell (Nat.le_succ _) _).setCell (Nat.le_succ _) _);clear hW3 c0 c1 c2 c3 c4 d0 d1 d2 d3 d4 f0 f1 f2 f3 f4;obtain⟨l,hl,hBl⟩:=HZ3;have hload:=hBl.loads underlying154 rfl (by rw[hl];exact info154);obtain⟨l0,l1,l2,l3,l4,rfl⟩:=len5 hl;refine bodyPost_ret (v:=.agg #[.int .u64 l0,.int .u64 l1,.int .u64 l2,.int .u64 l3,.int .u64 l4]) ?_ rfl ⟨⟨_,_,_,_,_,rfl⟩,HB3.out⟩;simp[results,results144,asAddr,hload,ints]
end Go.Proofs.YtppjnahcnofokaaGreat.T
namespace Go.Proofs.YtppjnahcnofokaaGreat.T
open Go.RowKit
open Go.Proofs.Tryz
variable{k:IntKind}{a:Act}{b i n B base m fuel D B':Nat}{l ch p t0 q:List Int}{w w' w1 w2:World}{t:TypeId}{P:Int->Int->Prop}{cs:Array Value}{A A':Option Addr}{o oi:Oper}{e s f st fl:Int}{xs:List (List Int×Int×Int×Int)}{ops:Array Oper}{rest l0:List Oper}{v:Value}{r:Option Nat}{rs rs2:List (Option Addr×Nat×Nat×List Int)}{E:Prop}{vs l3:List Value}{ad ai go:List Bool}{N:Act->Prop}{place:Nat->Option (Nat×Nat)}{bad:Bool}{es es':List (Int×List Int)}{T:List TypeId}{ps:List (List Int)}
attribute [local go_sem ↓] Go.wp_at_zero Go.wp_at_succ
attribute [local go_sem] usg wr1 wr2 wr3 wr4 wr5 tm1 tm2 tm3 tm4 tm5
theorem turn_any(a b c d e:Int)(w:World):Calls prog 85 #[.agg #[.int .u64 a,.int .u64 b,.int .u64 c,.int .u64 d,.int .u64 e]] w fun r w'=>(∃a b c d e,r=.returned (.agg #[.int .u64 a,.int .u64 b,.int .u64 c,.int .u64 d,.int .u64 e]))/\Bl w w':=by
 go_enter func85,ntmps85
 go_wp2_with fail;go_loopw [4] (fun v wr=>∃(k:Nat),v=.int .i64 k/\k<=12/\Hid (Row wr w.heap.size .u64 154 5)/\Hid (Row wr (w.heap.size+1) .u64 154 5)/\Hid (Bl w wr)) (fun v _=>(12-intOf v).toNat)
 case atStart=>
  exact⟨0,rfl,by omega,(Row.new [_,_,_,_,_] _ rfl rfl).alloc _,Row.new [_,_,_,_,_] _ rfl s_,((Below.refl _ _).alloc (Nat.le_refl _) _).alloc s_ _⟩
 case round=>
  obtain⟨k,rfl,hk,hX,hY,hb⟩:=hrel;obtain⟨x0,c0⟩:=hX.out.at 0 o_;obtain⟨x1,c1⟩:=hX.out.at 1 o_;obtain⟨x2,c2⟩:=hX.out.at 2 o_;obtain⟨x3,c3⟩:=hX.out.at 3 o_;obtain⟨x4,c4⟩:=hX.out.at 4 o_;by_cases hlt:k<12
  · have HR:=hd_ (round_any x0 x1 x2 x3 x4 k wr hlt);go_wp2_with fail;refine HR.out.mono ?_;clear HR;rintro _ w2 ⟨⟨y0,y1,y2,y3,y4,rfl⟩,hb2⟩;have hX2:=hd_ (hX.out.below hb2 hX.out.lt);have hY2:=hd_ (hY.out.below hb2 hY.out.lt);have hb3:=tb_ hb hb2;clear c0 c1 c2 c3 c4 hb2;obtain⟨z0,d0⟩:=hX2.out.at 0 o_;obtain⟨z1,d1⟩:=hX2.out.at 1 o_;obtain⟨z2,d2⟩:=hX2.out.at 2 o_;obtain⟨z3,d3⟩:=hX2.out.at 3 o_;obtain⟨z4,d4⟩:=hX2.out.at 4 o_;have f0:=hX2.out.free 0;have f1:=hX2.out.free 1;have f2:=hX2.out.free 2;have f3:=hX2.out.free 3;have f4:=hX2.out.free 4;go_wp2_with fail;go_roundw;(case rel=>exact⟨k+1,by go_num,by omega,((((hX2.out.set 0 _).set 1 _).set 2 _).set 3 _).set 4 _,((((hY2.out.other o_ 0 _).other o_ 1 _).other o_ 2 _).other o_ 3 _).other o_ 4 _,((((hb3.out.setCell (Nat.le_refl _) _).setCell (Nat.le_refl _) _).setCell (Nat.le_refl _) _).setCell (Nat.le_refl _) _).setCell (Nat.le_refl _) _⟩);case measure=>simp[intOf];omega
  have hke:k=12:=by omega
  subst hke;clear hlt hk;obtain⟨z0,d0⟩:=hY.out.at 0 o_;obtain⟨z1,d1⟩:=hY.out.at 1 o_;obtain⟨z2,d2⟩:=hY.out.at 2 o_;obtain⟨z3,d3⟩:=hY.out.at 3 o_;obtain⟨z4,d4⟩:=hY.out.at 4 o_;have f0:=hY.out.free 0;have f1:=hY.out.free 1;have f2:=hY.out.free 2;have f3:=hY.out.free 3;have f4:=hY.out.free 4;go_wp2_with fail;generalize hW3:World.setCell _ _ _=W3;have HZ3:Row W3 (w.heap.size+1) .u64 154 5:=by rw[<-hW3];exact((((hY.out.set 0 _).set 1 _).set 2 _).set 3 _).set 4 _
  have HB3:Hid (Bl w W3):=by rw[<-hW3];exact((((hb.out.setCell (Nat.le_succ _) _).setCell (Nat.le_succ _) _).setCell (Nat.le_succ _) _).setCell (Nat.le_succ _) _).setCell (Nat.le_succ _) _
  clear hW3 c0 c1 c2 c3 c4 d0 d1 d2 d3 d4 f0 f1 f2 f3 f4;obtain⟨l,hl,hBl⟩:=HZ3;have hload:=hBl.loads underlying154 rfl (by rw[hl];exact info154);obtain⟨l0,l1,l2,l3,l4,rfl⟩:=len5 hl;refine bodyPost_ret (v:=.agg #[.int .u64 l0,.int .u64 l1,.int .u64 l2,.int .u64 l3,.int .u64 l4]) ?_ rfl ⟨⟨_,_,_,_,_,rfl⟩,HB3.out⟩;simp[results,results85,asAddr,hload,ints]
structure Rd (w:World) (k:IntKind) (A:Option Addr) (n c:Nat) (l:List Int):Prop where
 len:l.length=n
 cap:n<=c
 at_:0<c->∃b o,A=some ⟨b,o,none⟩/\b<w.heap.size/\w.rangeAt b o (ints k l)
theorem Rd.below{c:Nat}(h:Rd w k A n c l)(hb:Bl w w'):Rd w' k A n c l:=
 ⟨h.len,h.cap,fun hp=>by
  obtain⟨b,o,e,hlt,hr⟩:=h.at_ hp
  exact⟨b,o,e,Nat.lt_of_lt_of_le hlt hb.size,fun j v hv=>by rw[hb.cell hlt];exact hr j v hv⟩⟩
theorem Rd.cell{o c:Nat}(h:Rd w k (some ⟨b,o,none⟩) n c l)(i:Nat)(hi:i<n):∃x,w.cell? ⟨b,o+i,none⟩=some (.int k x):=by
 have:=h.cap;obtain⟨b',o',e,_,hr⟩:=h.at_ o_;obtain⟨rfl,rfl⟩:b=b'/\o=o':=by simpa using e
 have h1:=h.len;exact⟨_,hr i _ (ints_get (List.getElem?_eq_getElem o_))⟩
def wordF(l:List Int):Int:=l.foldl (fun n c=>bits .or .u64 (IntKind.u64.wrap (n*256)) (IntKind.u64.wrap c)) 0
theorem take_snoc{x:Int}(h:l[i]? = some x):l.take (i+1)=l.take i ++ [x]:=by
 rw[List.take_add_one,h];rfl
theorem Rd.cell'{o c:Nat}(h:Rd w k (some ⟨b,o,none⟩) n c l)(i:Nat)(hi:i<n):∃x,l[i]? = some x/\w.cell? ⟨b,o+i,none⟩=some (.int k x):=by
 have:=h.cap;obtain⟨b',o',e,_,hr⟩:=h.at_ o_;obtain⟨rfl,rfl⟩:b=b'/\o=o':=by simpa using e
 have h1:=h.len;exact⟨_,List.getElem?_eq_getElem o_,hr i _ (ints_get (List.getElem?_eq_getElem o_))⟩
theorem word_any(A:Option Addr)(n c:Nat)(l:List Int)(w:World)(hr:Rd w .u8 A n c l)(hn:n<=1000000):Calls prog 86 #[.slice A n c] w fun r w'=>r=.returned (.int .u64 (wordF l))/\w=w':=by
 have HR:=hd_ hr;clear hr;go_enter func86,ntmps86
 go_wp2_with fail;go_loopw [3,8] (fun vx v wr=>∃(i:Nat) (x:Int),v=.int .i64 i/\vx=.int .u64 x/\i<=n/\Hid (x=wordF (l.take i))/\w=wr) (fun _ v _=>n-(intOf v).toNat)
 case atStart=>exact⟨0,0,rfl,rfl,Nat.zero_le _,rfl,rfl⟩
 case round=>
  obtain⟨i,x,rfl,rfl,hi,hx,rfl⟩:=hrel;by_cases hlt:i<n
  · obtain⟨b,o,rfl,_,_⟩:=HR.out.at_ (by have:=HR.out.cap;omega);obtain⟨y,hly,hy⟩:=HR.out.cell' i hlt;have HL:=hd_ hly;clear hly;go_wp2_with fail;go_roundw;(case rel=>exact⟨i+1,_,by go_num,rfl,by omega,(by show _=_;rw[take_snoc HL.out];unfold wordF;rw[List.foldl_append,hx.out];rfl),trivial⟩);case measure=>simp[intOf];omega
  go_wp2_with fail;go_ret;exact⟨by rw[hx.out,List.take_of_length_le (by have:=HR.out.len;omega)];rfl,rfl⟩
end Go.Proofs.YtppjnahcnofokaaGreat.T
namespace Go.Proofs.YtppjnahcnofokaaGreat.T
open Go.RowKit
open Go.Proofs.Tryz
variable{k:IntKind}{a:Act}{b i n B base m fuel D B':Nat}{l ch p t0 q:List Int}{w w' w1 w2:World}{t:TypeId}{P:Int->Int->Prop}{cs:Array Value}{A A':Option Addr}{o oi:Oper}{e s f st fl:Int}{xs:List (List Int×Int×Int×Int)}{ops:Array Oper}{rest l0:List Oper}{v:Value}{r:Option Nat}{rs rs2:List (Option Addr×Nat×Nat×List Int)}{E:Prop}{vs l3:List Value}{ad ai go:List Bool}{N:Act->Prop}{place:Nat->Option (Nat×Nat)}{bad:Bool}{es es':List (Int×List Int)}{T:List TypeId}{ps:List (List Int)}
attribute [local go_sem ↓] Go.wp_at_zero Go.wp_at_succ
attribute [local go_sem] usg wr1 wr2 wr3 wr4 wr5
def ET(t e:TypeId)(size bytes:Nat):Prop:=prog.underlying t=some (.slice e)/\∃i z,prog.info? e=some i/\i.zero=some z/\i.size=size/\i.bytes=bytes/\z.cells.size=size/\0<size
theorem et_of{e:TypeId}{size bytes:Nat}{z:Value}(h1:prog.underlying t=some (.slice e))(h2:(prog.info? e).map (fun i=>(i.zero,i.size,i.bytes))=some (some z,size,bytes))(h3:z.cells.size=size)(h4:0<size):ET t e size bytes:=by
 obtain⟨i,hi,h0,ha,hb⟩:=info_parts h2;exact⟨h1,i,z,hi,h0,ha,hb,h3,h4⟩
theorem et31:ET 31 5 1 1:=et_of (z:=.int .u8 0) underlying31 kk rfl dd
theorem et67:ET 67 31 1 24:=et_of (z:=.slice none 0 0) underlying67 kk rfl dd
structure Rg (w:World) (size:Nat) (A:Option Addr) (n c:Nat) (xs:List Value):Prop where
 len:xs.length=n*size
 cap:n<=c
 at_:0<c->∃b o,A=some ⟨b,o,none⟩/\b<w.heap.size/\w.rangeAt b o xs
theorem Rd.rg{c:Nat}(h:Rd w k A n c l):Rg w 1 A n c (ints k l):=
 ⟨by rw[ints_len,h.len,Nat.mul_one],h.cap,h.at_⟩
theorem Rg.below{size:Nat}{c:Nat}{xs:List Value}(h:Rg w size A n c xs)(hb:Bl w w'):Rg w' size A n c xs:=
 ⟨h.len,h.cap,fun hp=>by
  obtain⟨b,o,e,hlt,hr⟩:=h.at_ hp
  exact⟨b,o,e,Nat.lt_of_lt_of_le hlt hb.size,fun j v hv=>by rw[hb.cell hlt];exact hr j v hv⟩⟩
theorem ints_one:∀u ∈ ints k l,u.oneCell'=true:=by
 intro u hu;simp only[ints,List.mem_map]at hu;obtain⟨x,_,rfl⟩:=hu;rfl
section
variable {w:World}
theorem run_append_rg(base:Nat)(t e ty:TypeId)(size bytes:Nat)(hE:ET t e size bytes)(v:Value)(n:Nat)(xs:List Value)(hown:w.ownsRow base e size v n xs)(A:Option Addr)(m c:Nat)(news:List Value)(hr:Rg w size A m c news)(h1:∀u ∈ news,u.oneCell'=true)(hbytes:(n+m)*bytes<=140737488355328)(h63:n+m<=maxLen)(hbase:base<=w.heap.size): ∃v' w',(Builtin.append_ #[t,t] ty #[v,.slice A m c]).run prog w=.ok v' w'/\w'.ownsRow base e size v' (n+m) (xs++news)/\w.grownBy w' v.ownBlock/\(v'.ownBlock=v.ownBlock\/v'.ownBlock=some w.heap.size):=by
 obtain⟨ht,i,z,hi,hz,hs,hb,hzs,hp⟩:=hE
 cases A with
 | none=>
  have hc:c=0:=by(rcases Nat.eq_zero_or_pos c with h|h);(· exact h);obtain⟨b,o,e,_⟩:=hr.at_ h;cases e
  have hm:m=0:=by have:=hr.cap;omega
  subst hm;have hn:news=[]:=List.eq_nil_of_length_eq_zero (by rw[hr.len,Nat.zero_mul]);subst hn;subst hc;exact⟨v,w,run_append_owned_none w base t ty e i size ht hi v n xs hown,by simpa using hown,World.grownBy.refl w _,.inl rfl⟩
 | some ad=>
  have hcells:∀j u,news[j]? = some u->w.cell? (ad.add j)=some u:=fun j u hu=>by have hj:=(List.getElem?_eq_some_iff.1 hu).1;(have hmp:0<m:=by(rcases Nat.eq_zero_or_pos m with h|h);(· rw[hr.len,h,Nat.zero_mul]at hj;omega);exact h);obtain⟨b,o,e,_,hcell⟩:=hr.at_ (by have:=hr.cap;omega);(injection e with e);subst e;rw[Addr.add_mid];exact hcell j u hu
  obtain⟨v',w',hrun,h2,h3,_,h5⟩:=run_append_own_at (P:=prog) w base t ty e i z size bytes ht hi hz hs hb hzs hp v n xs hown ad m c news hr.len hcells h1 h63 hbytes hbase;exact⟨v',w',hrun,h2,h3,h5⟩
theorem append_rg{Q:Exit->Act->World->Prop}(hgd:o.guard=none)(s x:Operand)(t:TypeId)(ho:o.op=.call {callee:=.builtin .append,args:=#[s,x],argTypes:=#[t,t] })(base:Nat)(e:TypeId)(size bytes:Nat)(hE:ET t e size bytes)(v:Value)(n:Nat)(xs:List Value)(hs:a.eval s=v)(hown:w.ownsRow base e size v n xs)(A:Option Addr)(m c:Nat)(news:List Value)(hx:a.eval x=.slice A m c)(hr:Rg w size A m c news)(h1:∀u ∈ news,u.oneCell'=true)(hbytes:(n+m)*bytes<=140737488355328)(h63:n+m<=maxLen)(hbase:base<=w.heap.size)(h:∀A' c' w',w'.ownsRow base e size (.slice A' (n+m) c') (n+m) (xs++news)->w.grownBy w' v.ownBlock->Below base w w'->((Value.slice A' (n+m) c').ownBlock=v.ownBlock\/(Value.slice A' (n+m) c').ownBlock=some w.heap.size)->wpList prog ops Q rest (a.put o.dst (.slice A' (n+m) c')) w'):wpList prog ops Q (o :: rest) a w:=by
 refine wpList_plain hgd fun K hK=>?_;obtain⟨v',w',hrun,h2,h3,h4⟩:=run_append_rg base t e o.type size bytes hE v n xs hown A m c news hr h1 hbytes h63 hbase;unfold Oper.wp execOp;simp only[ho,resolve,invoke,builtin,Sem.run_bind,Sem.run_pure,Result.andThen_ok,List.map_toArray,List.map_cons,List.map_nil,hs,hx,hrun];have hv:∃A' c',v'=.slice A' (n+m) c':=by
  rcases h2.2 with⟨rfl,h0⟩|⟨g,cap,_,rfl,_⟩
  · exact⟨none,0,by rw[h0]⟩
  exact⟨_,_,rfl⟩
 obtain⟨A',c',rfl⟩:=hv;refine hK _ _ (h A' c' w' h2 h3 ?_ h4);exact(Below.refl base w).grown h3 hbase (fun k hk=>(hown.lt k hk).1)
end
def OwnB(w:World)(base:Nat)(v:Value)(n:Nat):Prop:=∃l:List Int,l.length=n/\w.ownsRow base 5 1 v n (ints .u8 l)
theorem OwnB.nil(w:World)(base:Nat):OwnB w base (.slice none 0 0) 0:=⟨[],rfl,World.ownsRow_nil _ _ _ _⟩
theorem OwnB.app{r:List Int}(hl:l.length=n)(hr:r.length=m)(h:w.ownsRow base 5 1 v (n+m) (ints .u8 l++ints .u8 r)):OwnB w base v (n+m):=
 ⟨l++r,by rw[List.length_append,hl,hr],by unfold ints at h ⊢;rw[List.map_append];exact h⟩
theorem OwnB.below(h:OwnB w base v n)(hb:Bl w w'):OwnB w' base v n:=by
 obtain⟨l,hl,ho⟩:=h;exact⟨l,hl,ho.kept (row:=none) ⟨hb.os,hb.tape,hb.output,hb.size,fun k hk _=>hb.block k hk⟩ (by cases hv:v.ownBlock<;>simp)⟩
theorem OwnB.rd{c:Nat}(h:OwnB w base (.slice A n c) n):∃l,Rd w .u8 A n c l:=by
 obtain⟨l,hl,ho⟩:=h;rcases ho.2 with⟨h1,h0⟩|⟨g,cap,cur,h1,hb,hg,hn,hm,hs,ht⟩
 · simp at h1;obtain⟨rfl,rfl,rfl⟩:=h1;exact⟨[],rfl,Nat.le_refl _,fun h=>absurd h dd⟩
 simp at h1;obtain⟨rfl,rfl⟩:=h1;refine⟨l,hl,hn,fun _=>⟨g,0,rfl,(Array.getElem?_eq_some_iff.1 hg).1,fun j v hv=>?_⟩⟩;have hj:j<(ints .u8 l).length:=(List.getElem?_eq_some_iff.1 hv).1;rw[ho.1]at hj;rw[Nat.zero_add,ho.cellAt j hj];exact hv
structure RdL (w:World) (A:Option Addr) (n c B:Nat):Prop where
 cap:n<=c
 at_:0<c->∃b o,A=some ⟨b,o,none⟩/\b<w.heap.size/\∀j,j<n->∃Aj nj cj lj,w.cell? ⟨b,o+j,none⟩=some (.slice Aj nj cj)/\Rd w .u8 Aj nj cj lj/\nj<=B
theorem RdL.below{c:Nat}(h:RdL w A n c B)(hb:Bl w w'):RdL w' A n c B:=
 ⟨h.cap,fun hp=>by
  obtain⟨b,o,e,hlt,hr⟩:=h.at_ hp
  refine⟨b,o,e,Nat.lt_of_lt_of_le hlt hb.size,fun j hj=>?_⟩
  obtain⟨Aj,nj,cj,lj,h1,h2,h3⟩:=hr j hj
  exact⟨Aj,nj,cj,lj,by rw[hb.cell hlt];exact h1,h2.below hb,h3⟩⟩
def slen:Value->Nat|.slice _ n _=>n|_=>0
theorem Rd.take{c:Nat}(h:Rd w k A n c l)(hm:m<=n):Rd w k A m c (l.take m):=
 ⟨by rw[List.length_take,h.len];omega,by have:=h.cap;omega,fun hc=>by
  obtain⟨b,o,e,hlt,hr⟩:=h.at_ hc
  refine⟨b,o,e,hlt,fun j v hv=>hr j v ?_⟩
  rw[ints,List.map_take,List.getElem?_take]at hv
  split at hv
  · exact hv
  · cases hv⟩
theorem Rd.drew{c:Nat}(h:Rd w k A n c l):Rd w.drew k A n c l:=⟨h.len,h.cap,h.at_⟩
theorem Rd.cut{o c:Nat}(h:Rd w k (some ⟨b,o,none⟩) n c l)(hm:m<=n)(hc0:0<c):Rd w k (if c=m then some ⟨b,o,none⟩ else some ⟨b,o+m,none⟩) (n-m) (c-m) (l.drop m):=
 ⟨by rw[List.length_drop,h.len],by have:=h.cap;omega,fun hc=>by
  obtain⟨b',o',e,hlt,hr⟩:=h.at_ hc0
  obtain⟨rfl,rfl⟩:b=b'/\o=o':=by simpa using e
  rw[if_neg o_]
  refine⟨b,o+m,rfl,hlt,fun j v hv=>?_⟩
  rw[show o+m+j=o+(m+j) by omega]
  refine hr (m+j) v ?_
  rw[ints,List.map_drop,List.getElem?_drop]at hv
  exact hv⟩
theorem all_ints(k:IntKind)(l:List Int):(ints k l).toArray.all (·.oneCell')=true:=all_oneCell_toArray ints_one
theorem below_setCells{a:World}(h:Below B a w)(hB:B<=b):∀(o:Nat) (vs:List Value),Below B a (w.setCells b o vs):=by
 intro o vs
 induction vs generalizing o w with
 | nil=>exact h
 | cons v vs ih=>exact ih (h.setCell hB v) (o+1)
theorem there_of_blk(h:Blk w b k t l):w.there b 0 l.length:=fun j hj=>by
 rw[Nat.zero_add,h.cell (List.getElem?_eq_getElem hj)]
 exact⟨rfl,h.free j⟩
theorem rg_one(w:World)(x:Int):Rg (w.alloc (.cells #[.int .u8 x] 5)) 1 (some ⟨w.heap.size,0,none⟩) 1 1 (ints .u8 [x]):=
 ⟨rfl,Nat.le_refl _,fun _=>⟨w.heap.size,0,rfl,by simp,fun j v hv=>by rw[Nat.zero_add,cell_of_row _ _ _ _ _ _ (heap_alloc_new w _)];simpa[ints] using hv⟩⟩
theorem tmod8(m:Nat):((m:Int)).tmod 8=((m % 8:Nat):Int):=by rw[Int.tmod_eq_emod_of_nonneg o_];omega
theorem info43:(prog.info? 43).map (·.size)=some 32:=by kernel_rfl
theorem sum_any(A:Option Addr)(n c:Nat)(w:World)(hr:RdL w A n c 60000)(hn:n<=100):Calls prog 52 #[.slice A n c] w fun r w'=>(∃l:List Int,l.length=32/\r=.returned (.agg (ints .u8 l).toArray))/\Bl w w':=by
 have HR:=hd_ hr;have H0:Hid (Row (w.alloc (.cells (ints .u8 (List.replicate 32 0)).toArray 43)) w.heap.size .u8 43 32):=Row.new _ _ rfl rfl;have Hb0:Hid (Bl w (w.alloc (.cells (ints .u8 (List.replicate 32 0)).toArray 43))):=(Below.refl _ _).alloc (Nat.le_refl _) _;clear hr;go_enter func52,ntmps52
 go_wp2_with fail;change Code.wp _ _ _ _ (w.alloc (.cells (ints .u8 (List.replicate 32 0)).toArray 43));generalize w.alloc (.cells (ints .u8 (List.replicate 32 0)).toArray 43)=w0 at H0 Hb0 ⊢;go_loopw [3,12] (fun vx v wr=>∃(i m:Nat) (A3:Option Addr) (c3:Nat),v=.int .i64 i/\vx=.slice A3 m c3/\i<=n/\m<=i*60000/\Hid (OwnB wr w0.heap.size (.slice A3 m c3) m)/\Hid (Bl w0 wr)) (fun _ v _=>n-(intOf v).toNat)
 case atStart=>exact⟨0,0,none,0,rfl,rfl,Nat.zero_le _,Nat.zero_le _,OwnB.nil _ _,Below.refl _ _⟩
 case round=>
  obtain⟨i,m,A3,c3,rfl,rfl,hi,hm,ho,hb⟩:=hrel
  by_cases hlt:i<n
  · obtain⟨b,o,rfl,hbl,hall⟩:=HR.out.at_ (by have:=HR.out.cap;omega);obtain⟨Aj,nj,cj,lj,hcj,hrd,hnj⟩:=hall i hlt;(have hcell:wr.cell? ⟨b,o+i,none⟩=some (.slice Aj nj cj):=by rw[(Hb0.out.trans (hb.out.mono Hb0.out.size)).cell hbl];exact hcj);have HRd:Hid (Rd wr .u8 Aj nj cj lj):=hrd.below (Hb0.out.trans (hb.out.mono Hb0.out.size));obtain⟨l3,hl3,ho3⟩:=ho.out;have HO:=hd_ ho3;have HL:=hd_ hl3;clear hall hcj hrd hbl ho3 hl3;go_wp2_with (at_builtin;refine append_rg rfl (.tmp 16) (.tmp 17) 31 rfl w0.heap.size 5 1 1 et31 (.slice A3 m c3) m (ints .u8 l3) rfl HO.out Aj nj cj (ints .u8 lj) rfl HRd.out.rg ints_one o_ (by unfold maxLen;omega) hb.out.size ?_;intro A4 c4 w4 hown4 hgrow hb4 hat);have HO4:Hid (OwnB w4 w0.heap.size (.slice A4 (m+nj) c4) (m+nj)):=OwnB.app HL.out HRd.out.len hown4;have Hb4:=hd_ (hb.out.trans hb4);clear hown4 hgrow hat hb4;go_roundw;(case rel=>exact⟨i+1,m+nj,A4,c4,by go_num,rfl,by omega,by omega,HO4,Hb4⟩);case measure=>simp[intOf];omega
  · (have Hm:m<=6000000:=by omega);clear hm hi;have hb1:Bl w0 (wr.alloc (.cells #[.int .u8 128] 5)):=hb.out.alloc hb.out.size _;obtain⟨l3,hl3,ho3⟩:=ho.out.below ((Below.refl _ _).alloc (Nat.le_refl _) (.cells #[.int .u8 128] 5));have HO:=hd_ ho3;have HL:=hd_ hl3;have Hb1:=hd_ hb1;clear hb1 ho3 hl3;go_wp2_with (at_builtin;refine append_rg rfl (.tmp 20) (.tmp 21) 31 rfl w0.heap.size 5 1 1 et31 (.slice A3 m c3) m (ints .u8 l3) rfl HO.out (some ⟨wr.heap.size,0,none⟩) 1 1 (ints .u8 [128]) rfl (rg_one wr 128) ints_one o_ (by unfold maxLen;omega) Hb1.out.size ?_;intro A4 c4 w4 hown4 hgrow hb4 hat);have HO4:Hid (OwnB w4 w0.heap.size (.slice A4 (m+1) c4) (m+1)):=OwnB.app HL.out rfl hown4;have Hb4:=hd_ (Hb1.out.trans hb4);clear hown4 hgrow hat hb4 HO HL Hb1 hb ho;(go_loopw [3] (fun vx wr=>∃(m:Nat) (A3:Option Addr) (c3:Nat),vx=.slice A3 m c3/\m<=6000008/\(m % 8≠0->m<=6000007)/\Hid (OwnB wr w0.heap.size (.slice A3 m c3) m)/\Hid (Bl w0 wr)) (fun vx _=>(8-slen vx % 8) % 8));(case atStart=>exact⟨m+1,A4,c4,rfl,by omega,by omega,HO4.out,Hb4.out⟩)
    case round=>
     clear HO4 Hb4
     obtain⟨m,A3,c3,rfl,hm1,hm2,ho,hb⟩:=hrel
     have htm:=tmod8 m
     by_cases hz:m % 8=0
     · rw[hz]at htm;have HZ:=hd_ hz;clear hz hm2;go_wp2_with fail;refine(turn_any _ _ _ _ _ wr).mono ?_;rintro _ w5 ⟨⟨y0,y1,y2,y3,y4,rfl⟩,hb5⟩;obtain⟨l,hrd⟩:=ho.out.rd;have HRd:=hd_ (hrd.below hb5);have Hb5:=tb_ hb hb5;clear hrd hb5 ho hb htm;go_wp2_with fail;(go_loopw [3] (fun vx wr=>∃(m:Nat) (A3:Option Addr) (c3:Nat) (l:List Int),vx=.slice A3 m c3/\m<=6000008/\Hid (m % 8=0)/\Hid (Rd w5 .u8 A3 m c3 l)/\Hid (Row wr w5.heap.size .u64 154 5)/\Hid (Bl w5 wr)) (fun vx _=>slen vx));(case atStart=>exact⟨m,A3,c3,l,rfl,by omega,HZ.out,HRd.out,Row.new [_,_,_,_,_] _ rfl rfl,(Below.refl _ _).alloc (Nat.le_refl _) _⟩)
       case round=>
        clear HRd HZ
        obtain⟨m,A3,c3,l,rfl,hm,hz,hrd,hx,hb⟩:=hrel
        by_cases hp:0<m
        · (have h8:8<=m:=by have:=hz.out;omega);have hcap:=hrd.out.cap;obtain⟨b,o,rfl,hbl,_⟩:=hrd.out.at_ o_;have HW:=hd_ (fun w' (h:Rd w' .u8 (some ⟨b,o,none⟩) m c3 l)=>word_any (some ⟨b,o,none⟩) 8 c3 (l.take 8) w' (h.take h8) o_);obtain⟨x0,c0⟩:=hx.out.at 0 o_;obtain⟨x1,c1⟩:=hx.out.at 1 o_;obtain⟨x2,c2⟩:=hx.out.at 2 o_;obtain⟨x3,c3'⟩:=hx.out.at 3 o_;obtain⟨x4,c4'⟩:=hx.out.at 4 o_;have f0:=hx.out.free 0;(have hc8:(8:Int)<=(c3:Int):=by omega);go_wp2_with fail;refine still_tail 7 mixed kk (fun W4 hW4=>?_);refine mD ?_;(have hd:∀a,wr.cell? a=W4.cell? a:=fun a=>by rw[<-hW4];rfl);(have hf:∀a,wr.frozen? a=W4.frozen? a:=fun a=>by rw[<-hW4];rfl);rw[hd]at c0 c1 c2 c3' c4';rw[hf]at f0;(have hx4:Hid (Row W4 w5.heap.size .u64 154 5):=by rw[<-hW4];exact hx.out);(have hb4:Hid (Bl w5 W4):=by rw[<-hW4];exact hb.out.drew);have hrd4:Hid (Rd W4 .u8 (some ⟨b,o,none⟩) m c3 l):=hrd.out.below hb4.out;clear hd hf hW4 hx hb;(repeat (first|still_step|(refine wpStill_step (fun K hK=>?_);go_simp;refine⟨_,(HW.out _ hrd4.out).mono fun _ _ h=>⟨h.1,h.2.symm⟩,hK _ ?_⟩;clear hK K)));refine wpStill_nil ?_;go_wp2_with fail;refine(turn_any _ _ _ _ _ _).mono ?_;rintro _ w6 ⟨⟨z0,z1,z2,z3,z4,rfl⟩,hb6⟩;have hx6:=hd_ ((hx4.out.set 0 _).below hb6 (by simpa[World.setCell] using hx4.out.lt));have hb7:=hd_ ((hb4.out.setCell (Nat.le_refl _) _).trans (hb6.mono (by simpa[World.setCell] using hb4.out.size)));clear hb6 c0 c1 c2 c3' c4' f0 hx4 hb4 hrd4 HW;obtain⟨x0,c0⟩:=hx6.out.at 0 o_;obtain⟨x1,c1⟩:=hx6.out.at 1 o_;obtain⟨x2,c2⟩:=hx6.out.at 2 o_;obtain⟨x3,c3'⟩:=hx6.out.at 3 o_;obtain⟨x4,c4'⟩:=hx6.out.at 4 o_;have f0:=hx6.out.free 0;have f1:=hx6.out.free 1;have f2:=hx6.out.free 2;have f3:=hx6.out.free 3;have f4:=hx6.out.free 4;(have hm8:(8:Int)<=(m:Int):=by omega);(have hmc:(m:Int)<=(c3:Int):=by omega);go_wp2_with fail;exact⟨⟨m-8,_,c3-8,l.drop 8,rfl,by omega,(by show _=_;have:=hz.out;omega),hrd.out.cut h8 o_,((((hx6.out.set 0 _).set 1 _).set 2 _).set 3 _).set 4 _,((((hb7.out.setCell (Nat.le_refl _) _).setCell (Nat.le_refl _) _).setCell (Nat.le_refl _) _).setCell (Nat.le_refl _) _).setCell (Nat.le_refl _) _⟩,by simp[slen];omega⟩
        · clear hz hrd;go_wp2_with fail;generalize hW:World.alloc _ _=W2;(have HH:Hid (Row W2 wr.heap.size .u8 43 32):=by rw[<-hW];exact Row.new (List.replicate 32 0) _ rfl rfl);(have HX:Hid (Row W2 w5.heap.size .u64 154 5):=by rw[<-hW];exact hx.out.alloc _);(have HB:Hid (Bl w5 W2):=by rw[<-hW];exact hb.out.alloc hb.out.size _);have HXH:Hid (w5.heap.size<wr.heap.size):=hx.out.lt;obtain⟨H,hH⟩:=ex_ (wr.heap.size);rw[<-hH]at HH HXH ⊢;clear hW hx hb hH;(go_loopw [46] (fun v wr=>∃(i:Nat),v=.int .i64 i/\i<=4/\Hid (Row wr H .u8 43 32)/\Hid (Row wr w5.heap.size .u64 154 5)/\Hid (Bl w5 wr)) (fun v _=>4-(intOf v).toNat));(case atStart=>exact⟨0,rfl,by omega,HH.out,HX.out,HB.out⟩)
          case round=>
           clear HH HX HB
           obtain⟨i,rfl,hi,HH,HX,HB⟩:=hrel
           by_cases hlt:i<4
           · go_wp2_with fail;(go_loopw [49] (fun v wr=>∃(k:Nat),v=.int .i64 k/\k<=8/\Hid (Row wr H .u8 43 32)/\Hid (Row wr w5.heap.size .u64 154 5)/\Hid (Bl w5 wr)) (fun v _=>8-(intOf v).toNat));(case atStart=>exact⟨0,rfl,by omega,HH.out,HX.out,HB.out⟩);case round=>
              clear HH HX HB;obtain⟨k,rfl,hk,HH,HX,HB⟩:=hrel;by_cases hlk:k<8;(· obtain⟨x0,c0⟩:=HX.out.at 0 o_;obtain⟨y,hy⟩:=HH.out.at (i*8+k) o_;have fy:=HH.out.free (i*8+k);go_wp2_with fail;exact⟨⟨k+1,by go_num,by omega,HH.out.set _ _,HX.out.other (by have:=HXH.out;omega) _ _,HB.out.setCell (by have:=HXH.out;show w5.heap.size<=H;omega) _⟩,by simp[intOf];omega⟩);(have hke:k=8:=by omega);subst hke;obtain⟨x0,c0⟩:=HX.out.at 0 o_;obtain⟨x1,c1⟩:=HX.out.at 1 o_;obtain⟨x2,c2⟩:=HX.out.at 2 o_;obtain⟨x3,c3'⟩:=HX.out.at 3 o_;obtain⟨x4,c4'⟩:=HX.out.at 4 o_;clear hlk hk;go_wp2_with fail;refine(turn_any _ _ _ _ _ _).mono ?_;rintro _ w6 ⟨⟨z0,z1,z2,z3,z4,rfl⟩,hb6⟩;have HX6:=hd_ (HX.out.below hb6 HX.out.lt);have HH6:=hd_ (HH.out.below hb6 HH.out.lt);have HB6:=tb_ HB hb6;clear hb6 c0 c1 c2 c3' c4' HX HH HB;obtain⟨x0,c0⟩:=HX6.out.at 0 o_;obtain⟨x1,c1⟩:=HX6.out.at 1 o_;obtain⟨x2,c2⟩:=HX6.out.at 2 o_;obtain⟨x3,c3'⟩:=HX6.out.at 3 o_;obtain⟨x4,c4'⟩:=HX6.out.at 4 o_;have f0:=HX6.out.free 0;have f1:=HX6.out.free 1;have f2:=HX6.out.free 2;have f3:=HX6.out.free 3;have f4:=HX6.out.free 4;go_wp2_with fail;have hne:=HXH.out;exact⟨⟨i+1,by go_num,by omega,((((HH6.out.other o_ 0 _).other o_ 1 _).other o_ 2 _).other o_ 3 _).other o_ 4 _,((((HX6.out.set 0 _).set 1 _).set 2 _).set 3 _).set 4 _,((((HB6.out.setCell (Nat.le_refl _) _).setCell (Nat.le_refl _) _).setCell (Nat.le_refl _) _).setCell (Nat.le_refl _) _).setCell (Nat.le_refl _) _⟩,by simp[intOf];omega⟩
           · obtain⟨lh,hlh,hBh⟩:=HH.out;have HRh:Hid (wr.rangeAt H 0 (ints .u8 lh)):=hBh.range;(have HI:Hid ((prog.info? 43).map (·.size)=some (ints .u8 lh).length):=by show _=_;rw[ints_len,hlh];exact info43);(have HI2:Hid ((prog.info? 43).map (·.size)=some (ints .u8 lh).toArray.size):=by show _=_;rw[List.size_toArray,ints_len,hlh];exact info43);have HBw:Hid (Bl w0 wr):=Hb5.out.trans (HB.out.mono Hb5.out.size);have H1:Row wr w.heap.size .u8 43 32:=H0.out.below HBw.out H0.out.lt;(have HT:Hid (wr.there w.heap.size 0 (ints .u8 lh).toArray.size):=by obtain⟨l2,hl2,hb2⟩:=H1;have:=there_of_blk hb2;rw[hl2]at this;(have e:(ints .u8 lh).toArray.size=32:=by rw[List.size_toArray,ints_len,hlh]);show wr.there w.heap.size 0 (ints .u8 lh).toArray.size;rw[e];exact this);have HLh:=hd_ hlh;have hall:=all_ints .u8 lh;clear hlh hBh H1
             go_wp2_with (first
              | (refine wpList_load_mid rfl 43 (.tmp 7) rr H 0 rr (ints .u8 lh) _ HRh.out underlying43 rfl HI.out ?_)
              | (refine wpList_store_mid rfl 43 (.tmp 2) (.tmp 68) rr w.heap.size 0 (ints .u8 lh).toArray rr rr HT.out HI2.out hall ?_))
             have hload:=run_loadVar_mid (P:=prog) _ w.heap.size 0 43 (ints .u8 lh) _ (World.rangeAt_setCells_same wr _ 0 (ints .u8 lh) (by simpa using HT.out)) underlying43 rfl HI.out;refine bodyPost_ret (v:=.agg (ints .u8 lh).toArray) (by simp[results,results52,asAddr,Act.put,hload]) rfl ⟨⟨lh,HLh.out,rfl⟩,?_⟩;exact below_setCells (Hb0.out.trans (HBw.out.mono Hb0.out.size)) (Nat.le_refl _) _ _
     · (have hne:(((m % 8:Nat):Int)==0)=false:=by rw[beq_eq_false_iff_ne];omega);have hb1:Bl w0 (wr.alloc (.cells #[.int .u8 0] 5)):=hb.out.alloc hb.out.size _;obtain⟨l3,hl3,ho3⟩:=ho.out.below ((Below.refl _ _).alloc (Nat.le_refl _) (.cells #[.int .u8 0] 5));have HO:=hd_ ho3;have HL:=hd_ hl3;have Hb1:=hd_ hb1;clear hb1 ho3 hl3;go_wp2_with (at_builtin;refine append_rg rfl (.tmp 27) (.tmp 28) 31 rfl w0.heap.size 5 1 1 et31 (.slice A3 m c3) m (ints .u8 l3) rfl HO.out (some ⟨wr.heap.size,0,none⟩) 1 1 (ints .u8 [0]) rfl (rg_one wr 0) ints_one o_ (by unfold maxLen;omega) Hb1.out.size ?_;intro A4 c4 w4 hown4 hgrow hb4 hat);have HO4:Hid (OwnB w4 w0.heap.size (.slice A4 (m+1) c4) (m+1)):=OwnB.app HL.out rfl hown4;have Hb4:=hd_ (Hb1.out.trans hb4);clear hown4 hgrow hat hb4 HO HL Hb1 hb ho;go_roundw;(case rel=>exact⟨m+1,A4,c4,rfl,by omega,by omega,HO4,Hb4⟩);case measure=>simp[slen];omega
end Go.Proofs.YtppjnahcnofokaaGreat.T
namespace Go.Proofs.YtppjnahcnofokaaGreat.T
open Go.RowKit
open Go.Proofs.Tryz
variable{k:IntKind}{a:Act}{b i n B base m fuel D B':Nat}{l ch p t0 q:List Int}{w w' w1 w2:World}{t:TypeId}{P:Int->Int->Prop}{cs:Array Value}{A A':Option Addr}{o oi:Oper}{e s f st fl:Int}{xs:List (List Int×Int×Int×Int)}{ops:Array Oper}{rest l0:List Oper}{v:Value}{r:Option Nat}{rs rs2:List (Option Addr×Nat×Nat×List Int)}{E:Prop}{vs l3:List Value}{ad ai go:List Bool}{N:Act->Prop}{place:Nat->Option (Nat×Nat)}{bad:Bool}{es es':List (Int×List Int)}{T:List TypeId}{ps:List (List Int)}
def sv(r:Option Addr×Nat×Nat×List Int):Value:=.slice r.1 r.2.1 r.2.2.1
structure RdR (w:World) (A:Option Addr) (n c B:Nat) (rs:List (Option Addr×Nat×Nat×List Int)):Prop where
 len:rs.length=n
 rg:Rg w 1 A n c (rs.map sv)
 each:∀r ∈ rs,Rd w .u8 r.1 r.2.1 r.2.2.1 r.2.2.2/\r.2.1<=B
theorem RdR.rdl{c:Nat}(h:RdR w A n c B rs):RdL w A n c B:=
 ⟨h.rg.cap,fun hc=>by
  obtain⟨b,o,e,hlt,hr⟩:=h.rg.at_ hc
  refine⟨b,o,e,hlt,fun j hj=>?_⟩
  obtain⟨r,hg⟩:∃r,rs[j]? = some r:=⟨_,List.getElem?_eq_getElem (by rw[h.len];exact hj)⟩
  obtain⟨h1,h2⟩:=h.each r (List.mem_of_getElem? hg)
  exact⟨_,_,_,_,hr j (sv r) (by rw[List.getElem?_map,hg];rfl),h1,h2⟩⟩
def sCap(w:World)(s:ByteArray):Nat:=grownCap w s.size 0 5
def sObj(w:World)(s:ByteArray):Obj:=.cells (bytesRow s (grownCap w s.size 0 5)) 5 ((bytesRow s (grownCap w s.size 0 5)).size,(bytesRow s (grownCap w s.size 0 5)).size+1)
def sLst(s:ByteArray):List Int:=s.data.toList.map (fun b=>(b.toNat:Int))
theorem run_conv(s:ByteArray)(w:World):(convert 9 31 (.string s)).run prog w=.ok (.slice (some ⟨w.heap.size,0,none⟩) s.size (sCap w s)) (w.drew.alloc (sObj w s)):=
 run_bytes_of_string w 9 31 5 s underlying9 underlying31 underlying5
theorem Rd.alloc{c:Nat}(h:Rd w k A n c l)(o:Obj):Rd (w.alloc o) k A n c l:=h.below ((Below.refl _ _).alloc (Nat.le_refl _) _)
theorem bal{o:Obj}(h:Bl w w'):Bl w (w'.alloc o):=h.alloc h.size o
theorem rd_conv(s:ByteArray)(w:World)(b:Nat)(hb:w.heap.size=b):Rd (w.alloc (sObj w s)) .u8 (some ⟨b,0,none⟩) s.size (sCap w s) (sLst s):=by
 subst hb;refine⟨by rw[sLst,List.length_map];rfl,grownCap_ge _ _ _ _,fun _=>⟨w.heap.size,0,rfl,by simp,fun j v hv=>?_⟩⟩;have hj:j<s.data.size:=by have:=(List.getElem?_eq_some_iff.1 hv).1;simpa[ints,sLst] using this
 rw[Nat.zero_add];refine(cell_of_row (w.alloc (sObj w s)) w.heap.size j _ _ _ (heap_alloc_new w (sObj w s))).trans ?_;rw[bytesRow_at s _ j hj];simp only[ints,sLst,List.map_map,List.getElem?_map]at hv;rw[List.getElem?_eq_getElem (by simpa using hj)]at hv;simpa using hv
theorem rd_new(w:World)(t:TypeId)(l:List Int)(n b:Nat)(hn:l.length=n)(hb:w.heap.size=b):Rd (w.alloc (.cells (ints .u8 l).toArray t)) .u8 (some ⟨b,0,none⟩) n n l:=by
 subst hb;exact⟨hn,Nat.le_refl _,fun _=>⟨w.heap.size,0,rfl,by simp,fun j v hv=>by rw[Nat.zero_add,cell_of_row _ _ _ _ _ _ (heap_alloc_new w _)];simpa using hv⟩⟩
theorem own_new(w:World)(base e size:Nat)(cs:Array Value)(n b:Nat)(hb:w.heap.size=b)(hB:base<=w.heap.size)(hn:n<=1000)(hs:cs.size=n*size):(w.alloc (.cells cs e)).ownsRow base e size (.slice (some ⟨b,0,none⟩) n n) n cs.toList:=by
 subst hb;exact World.ownsRow_lit w cs n hB (by unfold maxLen;omega) hs
theorem own_rg{e size c:Nat}{xs:List Value}(h:w.ownsRow base e size (.slice A n c) n xs):Rg w size A n c xs:=by
 rcases h.2 with⟨h1,h0⟩|⟨g,cap,cur,h1,hb,hg,hn,hm,hs,ht⟩
 · simp at h1;obtain⟨rfl,rfl,rfl⟩:=h1;exact⟨h.1,Nat.le_refl _,fun h=>absurd h dd⟩
 simp at h1;obtain⟨rfl,rfl⟩:=h1;refine⟨h.1,hn,fun _=>⟨g,0,rfl,(Array.getElem?_eq_some_iff.1 hg).1,fun j v hv=>?_⟩⟩;have hj:j<xs.length:=(List.getElem?_eq_some_iff.1 hv).1;rw[h.1]at hj;rw[Nat.zero_add,h.cellAt j hj];exact hv
theorem Row.grown{row:Option Nat}(h:Row w b k t n)(hg:w.grownBy w' row)(hne:some b≠row):Row w' b k t n:=by
 obtain⟨l,hl,hb⟩:=h;exact⟨l,hl,(hg.block b hb.lt hne).trans hb⟩
theorem row_there(h:Row w b k t n)(hm:m=n):w.there b 0 m:=by
 obtain⟨l,hl,hb⟩:=h;subst hm;rw[<-hl];exact there_of_blk hb
theorem sv_one:∀u ∈ rs.map sv,u.oneCell'=true:=by
 intro u hu;obtain⟨r,_,rfl⟩:=List.mem_map.1 hu;rfl
theorem Rd.grown{c:Nat}{row:Option Nat}(h:Rd w k A n c l)(hg:w.grownBy w' row)(hne:∀b o,A=some ⟨b,o,none⟩->some b≠row):Rd w' k A n c l:=
 ⟨h.len,h.cap,fun hc=>by
  obtain⟨b,o,e,hlt,hr⟩:=h.at_ hc
  exact⟨b,o,e,Nat.lt_of_lt_of_le hlt hg.size,fun j v hv=>by rw[hg.cell_far _ hlt (hne b o e)];exact hr j v hv⟩⟩
theorem derive_any(p:List Int)(s:ByteArray)(A:Option Addr)(n c:Nat)(rs:List (Option Addr×Nat×Nat×List Int))(w:World)(hp:p.length=32)(hs:s.size<=20)(hr:RdR w A n c 60000 rs)(hn:n<=90): Calls prog 37 #[.agg (ints .u8 p).toArray,.string s,.slice A n c] w fun r w'=>(∃l:List Int,l.length=32/\r=.returned (.agg (ints .u8 l).toArray))/\Bl w w':=by
 have HR:=hd_ hr;have hconv:=run_conv s;have HP:=hd_ hp;clear hr hp;go_enter func37,ntmps37
 go_wp2_with (at_builtin;generalize hC:sCap _ _=cs;generalize hW5:World.drew _=w5;have hb5:Bl w w5:=(by rw[<-hW5];exact(bal (bal (bal (bal b0_)))).drew);have H1:Rd w5 .u8 (some ⟨w.heap.size,0,none⟩) 32 32 p:=(by rw[<-hW5];exact(((((rd_new w 43 p 32 _ HP.out rfl).alloc _).alloc _).alloc _).alloc _).drew);have H2:Rd w5 .u8 (some ⟨w.heap.size+1+1,0,none⟩) 1 1 [(s.size:Int)]:=(by rw[<-hW5];exact(((rd_new _ 5 [_] 1 _ rfl s_).alloc _).alloc _).drew);have H3:Rd w5 .u8 (some ⟨w.heap.size+1+1+1,0,none⟩) s.size cs (sLst s):=(by rw[<-hW5,<- hC];exact((rd_conv s _ _ s_).alloc _).drew);have H4:Row w5 (w.heap.size+1) .u8 43 32:=(by rw[<-hW5];exact((((Row.new (List.replicate 32 0) _ rfl s_).alloc _).alloc _).alloc _).drew);have H5:w5.ownsRow w.heap.size 31 1 (.slice (some ⟨w.heap.size+1+1+1+1,0,none⟩) 3 3) 3 [.slice (some ⟨w.heap.size,0,none⟩) 32 32,.slice (some ⟨w.heap.size+1+1,0,none⟩) 1 1,.slice (some ⟨w.heap.size+1+1+1,0,none⟩) s.size cs]:=(by rw[<-hW5];exact(own_new _ _ 31 1 _ 3 _ s_ s1_ o_ rfl).drew);have G:=hd_ (And.intro hb5 (And.intro H1 (And.intro H2 (And.intro H3 (And.intro H4 H5)))));clear hW5 hC hb5 H1 H2 H3 H4 H5;refine append_rg rfl (.tmp 16) (.tmp 17) 67 rfl w.heap.size 31 1 24 et67 (.slice (some ⟨w.heap.size+1+1+1+1,0,none⟩) 3 3) 3 _ rfl G.out.2.2.2.2.2 A n c (rs.map sv) rfl (HR.out.rg.below G.out.1) sv_one o_ (by unfold maxLen;omega) G.out.1.size ?_;intro A6 c6 w6 hown6 hgrow hb6 hat;clear hconv);have hrow:(Value.slice (some ⟨w.heap.size+1+1+1+1,0,none⟩) 3 3).ownBlock=some (w.heap.size+1+1+1+1):=rfl;rw[hrow]at hgrow;have H1:=G.out.2.1.grown hgrow (fun b o e=>by simp at e;simp;omega);have H2:=G.out.2.2.1.grown hgrow (fun b o e=>by simp at e;simp;omega);have H3:=G.out.2.2.2.1.grown hgrow (fun b o e=>by simp at e;simp;omega);have H4:=hd_ (G.out.2.2.2.2.1.grown hgrow s_);have Hb6:=hd_ (G.out.1.trans hb6);have HRR:Hid (RdR w6 A6 (3+n) c6 60000 ([(some ⟨w.heap.size,0,none⟩,32,32,p),(some ⟨w.heap.size+1+1,0,none⟩,1,1,[(s.size:Int)]),(some ⟨w.heap.size+1+1+1,0,none⟩,s.size,cs,sLst s)]++rs)):=by
  refine⟨by rw[List.length_append,HR.out.len];rfl,by rw[List.map_append];exact own_rg hown6,fun r hr=>?_⟩;rcases List.mem_append.1 hr with h|h
  · simp at h;(rcases h with rfl|rfl|rfl);(· exact⟨H1,by show 32<=_;omega⟩);(· exact⟨H2,by show 1<=_;omega⟩);exact⟨H3,by show s.size<=_;omega⟩
  exact⟨((HR.out.each r h).1.below Hb6.out),(HR.out.each r h).2⟩
 clear H1 H2 H3 hgrow hrow hat hb6 hown6 G;refine(sum_any A6 (3+n) c6 w6 HRR.out.rdl o_).mono ?_;rintro _ w7 ⟨⟨l,hl,rfl⟩,hb7⟩;have H7:=H4.out.below hb7 H4.out.lt;have Hb7:=tb_ Hb6 hb7;have HI:Hid ((prog.info? 43).map (·.size)=some (ints .u8 l).length):=by show _=_;rw[ints_len,hl];exact info43
 have HI2:Hid ((prog.info? 43).map (·.size)=some (ints .u8 l).toArray.size):=by show _=_;rw[List.size_toArray,ints_len,hl];exact info43
 have HT:Hid (w7.there (w.heap.size+1) 0 (ints .u8 l).toArray.size):=row_there H7 (by rw[List.size_toArray,ints_len,hl]);have HLh:=hd_ hl;have hall:=all_ints .u8 l;clear hl H7 hb7;go_wp2_with (refine wpList_store_mid rfl 43 (.tmp 6) (.tmp 19) rr (w.heap.size+1) 0 (ints .u8 l).toArray rr rr HT.out HI2.out hall ?_);have hload:=run_loadVar_mid (P:=prog) _ (w.heap.size+1) 0 43 (ints .u8 l) _ (World.rangeAt_setCells_same w7 _ 0 (ints .u8 l) (by simpa using HT.out)) underlying43 rfl HI.out;refine bodyPost_ret (v:=.agg (ints .u8 l).toArray) (by simp[results,results37,asAddr,Act.put,hload]) rfl ⟨⟨l,HLh.out,rfl⟩,?_⟩;exact below_setCells Hb7.out (Nat.le_succ _) _ _
end Go.Proofs.YtppjnahcnofokaaGreat.T
namespace Go.Proofs.YtppjnahcnofokaaGreat.T
open Go.RowKit
open Go.Proofs.Tryz
variable{k:IntKind}{a:Act}{b i n B base m fuel D B':Nat}{l ch p t0 q:List Int}{w w' w1 w2:World}{t:TypeId}{P:Int->Int->Prop}{cs:Array Value}{A A':Option Addr}{o oi:Oper}{e s f st fl:Int}{xs:List (List Int×Int×Int×Int)}{ops:Array Oper}{rest l0:List Oper}{v:Value}{r:Option Nat}{rs rs2:List (Option Addr×Nat×Nat×List Int)}{E:Prop}{vs l3:List Value}{ad ai go:List Bool}{N:Act->Prop}{place:Nat->Option (Nat×Nat)}{bad:Bool}{es es':List (Int×List Int)}{T:List TypeId}{ps:List (List Int)}
theorem hv32(h:l.length=32):Hid ((prog.info? 43).map (·.size)=some (ints .u8 l).length):=by show _=_;rw[ints_len,h];exact info43
theorem hv32a(h:l.length=32):Hid ((prog.info? 43).map (·.size)=some (ints .u8 l).toArray.size):=by show _=_;rw[List.size_toArray,ints_len,h];exact info43
theorem blk_new(w:World)(k:IntKind)(t:TypeId)(l:List Int)(b:Nat)(hb:w.heap.size=b):Blk (w.alloc (.cells (ints k l).toArray t)) b k t l:=by
 subst hb;exact heap_alloc_new _ _
theorem Blk.below(h:Blk w b k t l)(hb:Below B w w')(hB:b<B):Blk w' b k t l:=(hb.block b hB).trans h
theorem bits_rng(op:BinOp)(x y:Int):0<=bits op .u64 x y/\bits op .u64 x y<18446744073709551616:=by
 unfold bits IntKind.wrap;simp only[IntKind.signed,IntKind.bits];constructor<;>(simp;omega)
theorem begins_any(p:List Int)(m:Int)(w:World)(hp:p.length=32)(hm:0<m/\m<=1073741789):Calls prog 137 #[.agg (ints .u8 p).toArray,.int .i64 m] w fun r w'=>(∃x,0<=x/\x<m/\r=.returned (.int .i64 x))/\Bl w w':=by
 have HB:Hid (Bl w (w.alloc (.cells (ints .u8 p).toArray 43))):=(Below.refl _ _).alloc (Nat.le_refl _) _;have HR:Hid (Rd (w.alloc (.cells (ints .u8 p).toArray 43)) .u8 (some ⟨w.heap.size,0,none⟩) 32 32 p):=rd_new w 43 p 32 _ hp rfl;obtain⟨h0,h1⟩:=hm;go_enter func137,ntmps137
 go_wp2_with fail;generalize w.alloc (.cells (ints .u8 p).toArray 43)=w1 at HB HR ⊢;go_loopw [5,10] (fun vx v wr=>∃(i:Nat) (x:Int),v=.int .i64 i/\vx=.int .u64 x/\i<=8/\0<=x/\x<18446744073709551616/\w1=wr) (fun _ v _=>8-(intOf v).toNat)
 case atStart=>exact⟨0,0,rfl,rfl,by omega,by omega,by omega,rfl⟩
 case round=>
  obtain⟨i,x,rfl,rfl,hi,hx0,hx1,rfl⟩:=hrel;by_cases hlt:i<8
  · obtain⟨y,hly,hy⟩:=HR.out.cell' i o_;rw[Nat.zero_add]at hy;have HL:=hd_ hly;clear hly;go_wp2_with fail;go_roundw;(case rel=>exact⟨i+1,_,by go_num,rfl,by omega,(bits_rng _ _ _).1,(bits_rng _ _ _).2,trivial⟩);case measure=>simp[intOf];omega
  have hx:wrap64 (x % m)=x % m:=by have:=Int.emod_nonneg x (by omega:m≠0);have:=Int.emod_lt_of_pos x (by omega:0<m);unfold wrap64;omega
  have HX:=hd_ hx;clear hx;go_wp2_with fail;go_ret;refine⟨⟨x % m,Int.emod_nonneg x o_,Int.emod_lt_of_pos x o_,?_⟩,HB.out⟩;exact ret_int HX.out
theorem scalar_any(p:List Int)(w:World)(hp:p.length=32):Calls prog 80 #[.agg (ints .u8 p).toArray] w fun r w'=>(∃x,1<=x/\x<=1073741788/\r=.returned (.int .i64 x))/\Bl w w':=by
 have HB:Hid (Bl w (w.alloc (.cells (ints .u8 p).toArray 43))):=(Below.refl _ _).alloc (Nat.le_refl _) _;have HR:Hid (Blk (w.alloc (.cells (ints .u8 p).toArray 43)) w.heap.size .u8 43 p):=blk_new _ _ _ _ _ rfl;have HI:=hv32 hp;go_enter func80,ntmps80
 go_wp2_with (refine wpList_load_mid rfl 43 (.tmp 1) rr w.heap.size 0 rr (ints .u8 p) _ HR.out.range underlying43 rfl HI.out ?_);refine(begins_any p 1073741788 _ hp o_).mono ?_;rintro _ w2 ⟨⟨x,h0,h1,rfl⟩,hb⟩;have HB2:=tb_ HB hb;clear hb;go_wp2_with fail;go_ret;exact⟨⟨x+1,by omega,by omega,rfl⟩,HB2.out⟩
def KeyC(s d p m u:Int):Array Value:=#[.int .i64 s,.int .u32 d,.int .i32 0,.int .u32 0,.int .i64 p,.int .u32 m,.int .i64 u]
def KeyAt(w:World)(g:Nat)(s:Int):Prop:=(1<=s/\s<=1073741788)/\∃d p m u,w.heap[g]? = some (.cells (KeyC s d p m u) 161 (0,0))/\(d=0\/(d=1/\p=powF 4 s))
theorem KeyAt.lt{g:Nat}(h:KeyAt w g s):g<w.heap.size:=by
 obtain⟨_,d,p,m,u,h,_⟩:=h;exact(Array.getElem?_eq_some_iff.1 h).1
theorem KeyAt.below{g:Nat}(h:KeyAt w g s)(hb:Below B w w')(hB:g<B):KeyAt w' g s:=by
 obtain⟨hs,d,p,m,u,h,hd⟩:=h;exact⟨hs,d,p,m,u,(hb.block g hB).trans h,hd⟩
theorem from_any(p:List Int)(w:World)(hp:p.length=32):Calls prog 49 #[.agg (ints .u8 p).toArray] w fun r w'=>(∃g s,w.heap.size<=g/\KeyAt w' g s/\r=.returned (.pointer (some ⟨g,0,none⟩)))/\Bl w w':=by
 have HB:Hid (Bl w (w.alloc (.cells (ints .u8 p).toArray 43))):=(Below.refl _ _).alloc (Nat.le_refl _) _;have HR:Hid (Blk (w.alloc (.cells (ints .u8 p).toArray 43)) w.heap.size .u8 43 p):=blk_new _ _ _ _ _ rfl;have HI:=hv32 hp;go_enter func49,ntmps49
 go_wp2_with (refine wpList_load_mid rfl 43 (.tmp 1) rr w.heap.size 0 rr (ints .u8 p) _ HR.out.range underlying43 rfl HI.out ?_);refine(scalar_any p _ hp).mono ?_;rintro _ w2 ⟨⟨x,h0,h1,rfl⟩,hb⟩;have HB2:=tb_ HB hb;clear hb;go_wp2_with fail;go_ret;exact⟨⟨w2.heap.size,x,HB2.out.size,⟨⟨h0,h1⟩,0,0,0,0,heap_alloc_new _ _,.inl rfl⟩,rfl⟩,HB2.out.alloc HB2.out.size _⟩
end Go.Proofs.YtppjnahcnofokaaGreat.T
namespace Go.Proofs.YtppjnahcnofokaaGreat.T
open Go.RowKit
open Go.Proofs.Tryz
variable{k:IntKind}{a:Act}{b i n B base m fuel D B':Nat}{l ch p t0 q:List Int}{w w' w1 w2:World}{t:TypeId}{P:Int->Int->Prop}{cs:Array Value}{A A':Option Addr}{o oi:Oper}{e s f st fl:Int}{xs:List (List Int×Int×Int×Int)}{ops:Array Oper}{rest l0:List Oper}{v:Value}{r:Option Nat}{rs rs2:List (Option Addr×Nat×Nat×List Int)}{E:Prop}{vs l3:List Value}{ad ai go:List Bool}{N:Act->Prop}{place:Nat->Option (Nat×Nat)}{bad:Bool}{es es':List (Int×List Int)}{T:List TypeId}{ps:List (List Int)}
theorem rdr_nil(w:World):RdR w none 0 0 60000 []:=⟨rfl,⟨rfl,Nat.le_refl _,fun h=>absurd h dd⟩,fun r hr=>by cases hr⟩
def IsH(r:Ending):Prop:=∃l:List Int,l.length=32/\r=.returned (.agg (ints .u8 l).toArray)
theorem next_any(p:List Int)(w:World)(hp:p.length=32):Calls prog 180 #[.agg (ints .u8 p).toArray] w fun r w'=>IsH r/\Bl w w':=by
 have HB:Hid (Bl w ((w.alloc (.cells (ints .u8 p).toArray 43)).alloc (.cells (ints .u8 (List.replicate 32 0)).toArray 43))):=bal b0_;have HR:Hid (Blk ((w.alloc (.cells (ints .u8 p).toArray 43)).alloc (.cells (ints .u8 (List.replicate 32 0)).toArray 43)) w.heap.size .u8 43 p):=(blk_new _ _ _ _ _ rfl).below ((Below.refl _ _).alloc (Nat.le_refl _) _) s_;have HZ:Hid (Row ((w.alloc (.cells (ints .u8 p).toArray 43)).alloc (.cells (ints .u8 (List.replicate 32 0)).toArray 43)) (w.heap.size+1) .u8 43 32):=Row.new (List.replicate 32 0) _ rfl s_;have HI:=hv32 hp;go_enter func180,ntmps180
 go_wp2_with ((change wpList _ _ _ _ _ ((w.alloc (.cells (ints .u8 p).toArray 43)).alloc (.cells (ints .u8 (List.replicate 32 0)).toArray 43)));generalize ((w.alloc (.cells (ints .u8 p).toArray 43)).alloc (.cells (ints .u8 (List.replicate 32 0)).toArray 43))=w1 at HB HR HZ ⊢;refine wpList_load_mid rfl 43 (.tmp 1) rr w.heap.size 0 rr (ints .u8 p) _ HR.out.range underlying43 rfl HI.out ?_);refine(derive_any p _ none 0 0 [] w1 hp dd (rdr_nil _) o_).mono ?_;rintro _ w2 ⟨⟨l,hl,rfl⟩,hb⟩;have HB2:=tb_ HB hb;have HZ2:=HZ.out.below hb HZ.out.lt;have HT:Hid (w2.there (w.heap.size+1) 0 (ints .u8 l).toArray.size):=row_there HZ2 (by rw[List.size_toArray,ints_len,hl]);have HI1:=hv32 hl;have HI2:=hv32a hl;have HL:=hd_ hl;have hall:=all_ints .u8 l;clear hb hl HZ2 HZ;go_wp2_with (refine wpList_store_mid rfl 43 (.tmp 2) (.tmp 4) rr (w.heap.size+1) 0 (ints .u8 l).toArray rr rr HT.out HI2.out hall ?_);have hload:=run_loadVar_mid (P:=prog) _ (w.heap.size+1) 0 43 (ints .u8 l) _ (World.rangeAt_setCells_same w2 _ 0 (ints .u8 l) (by simpa using HT.out)) underlying43 rfl HI1.out;refine bodyPost_ret (v:=.agg (ints .u8 l).toArray) (by simp[results,results180,asAddr,Act.put,hload]) rfl ⟨⟨l,HL.out,rfl⟩,?_⟩;exact below_setCells HB2.out (Nat.le_succ _) _ _
theorem node_any(p:List Int)(w:World)(hp:p.length=32):Calls prog 51 #[.agg (ints .u8 p).toArray] w fun r w'=>(∃g s,w.heap.size<=g/\KeyAt w' g s/\r=.returned (.pointer (some ⟨g,0,none⟩)))/\Bl w w':=by
 have HB:Hid (Bl w (w.alloc (.cells (ints .u8 p).toArray 43))):=(Below.refl _ _).alloc (Nat.le_refl _) _;have HR:Hid (Blk (w.alloc (.cells (ints .u8 p).toArray 43)) w.heap.size .u8 43 p):=blk_new _ _ _ _ _ rfl;have HI:=hv32 hp;go_enter func51,ntmps51
 go_wp2_with (refine wpList_load_mid rfl 43 (.tmp 1) rr w.heap.size 0 rr (ints .u8 p) _ HR.out.range underlying43 rfl HI.out ?_);refine(derive_any p _ none 0 0 [] _ hp dd (rdr_nil _) o_).mono ?_;rintro _ w2 ⟨⟨l,hl,rfl⟩,hb⟩;have HB2:=tb_ HB hb;clear hb;go_wp2_with fail;refine(from_any l _ hl).mono ?_;rintro _ w3 ⟨⟨g,s,hg,hk,rfl⟩,hb⟩;have HB3:=tb_ HB2 hb;have HK:=hd_ hk;have HG:=hd_ (Nat.le_trans HB2.out.size hg);clear hb hk hg;go_wp2_with fail;go_ret;exact⟨⟨g,s,HG.out,HK.out,rfl⟩,HB3.out⟩
theorem secret_any(g:Nat)(s:Int)(w:World)(hk:KeyAt w g s):Calls prog 152 #[.pointer (some ⟨g,0,none⟩)] w fun r w'=>r=.returned (.int .i64 s)/\w=w':=by
 obtain⟨_,d,p,m,u,h,_⟩:=hk;have hc:w.cell? ⟨g,0,none⟩=some (.int .i64 s):=by rw[cell_of_row _ _ _ _ _ _ h];rfl
 clear h;go_enter func152,ntmps152
 go_wp2_with fail;go_ret;exact⟨rfl,rfl⟩
theorem four_any(n:Int)(w:World):Calls prog 153 #[.int .i64 n] w fun r w'=>(∃A c l,r=.returned (.slice A 4 c)/\w'.ownsRow w.heap.size 5 1 (.slice A 4 c) 4 (ints .u8 l)/\l.length=4)/\Bl w w':=by
 go_enter func153,ntmps153
 go_wp2_with fail;go_ret;exact⟨⟨_,_,[_,_,_,_],rfl,own_new _ _ 5 1 _ 4 _ rfl (Nat.le_refl _) o_ rfl,rfl⟩,b0_⟩
theorem run_mk8(w:World):(Instr.makeSlice 31 (.int .i64 8) (.int .i64 8)).run prog w=.ok (.slice (some ⟨w.heap.size,0,none⟩) 8 8) (w.alloc (.cells (ints .u8 (List.replicate 8 0)).toArray 5)):=by
 obtain⟨h1,i,z,hi,h0,ha,hb,_,_⟩:=et31;obtain⟨i',hi',h0',ha',hb'⟩:=info_parts (show(prog.info? 5).map (fun i=>(i.zero,i.size,i.bytes))=some (some (.int .u8 0),1,1) by kernel_rfl);have e:=run_makeSlice (P:=prog) w 31 5 i' (.int .u8 0) underlying31 hi' h0' .i64 .i64 8 8 dd dd (by rw[ha'];decide) (by rw[hb'];decide) dd;rw[e,ha'];have hm:madeCells (Value.int IntKind.u8 0).cells (Int.toNat 8*1)=(ints .u8 (List.replicate 8 0)).toArray:=by kernel_rfl
 rw[hm];rfl
theorem row_own(h:Row w b .u8 5 n)(hb:base<=b)(hn:n<=1000):∃l,w.ownsRow base 5 1 (.slice (some ⟨b,0,none⟩) n n) n (ints .u8 l)/\l.length=n:=by
 obtain⟨l,hl,h⟩:=h;refine⟨l,⟨by rw[ints_len,hl,Nat.mul_one],.inr ⟨b,n,(ints .u8 l).toArray,rfl,hb,h,Nat.le_refl _,by unfold maxLen;omega,by rw[List.size_toArray,ints_len,hl,Nat.mul_one],?_⟩⟩,hl⟩;rw[List.take_of_length_le (by rw[ints_len,hl,Nat.mul_one];exact Nat.le_refl _)]
theorem num_any(n:Int)(w:World):Calls prog 38 #[.int .i64 n] w fun r w'=>(∃A c l,r=.returned (.slice A 8 c)/\w'.ownsRow w.heap.size 5 1 (.slice A 8 c) 8 (ints .u8 l)/\l.length=8)/\Bl w w':=by
 have hmk:=run_mk8;go_enter func38,ntmps38
 go_wp2_with fail;clear hmk;go_loopw [8] (fun v wr=>∃i:Nat,v=.int .i64 i/\i<=8/\Hid (Row wr w.heap.size .u8 5 8)/\Hid (Bl w wr)) (fun v _=>8-(intOf v).toNat)
 case atStart=>exact⟨0,rfl,by omega,Row.new (List.replicate 8 0) _ rfl rfl,b0_⟩
 case round=>
  obtain⟨i,rfl,hi,hR,hb⟩:=hrel;by_cases hlt:i<8
  · obtain⟨y,hy⟩:=hR.out.at i hlt;have fy:=hR.out.free i;go_wp2_with fail;exact⟨⟨i+1,by go_num,by omega,hR.out.set _ _,hb.out.setCell (Nat.le_refl _) _⟩,by simp[intOf];omega⟩
  go_wp2_with fail;go_ret;obtain⟨l,h1,h2⟩:=row_own hR.out (Nat.le_refl w.heap.size) o_;exact⟨⟨_,_,l,rfl,h1,h2⟩,hb.out⟩
end Go.Proofs.YtppjnahcnofokaaGreat.T
namespace Go.Proofs.YtppjnahcnofokaaGreat.T
open Go.RowKit
open Go.Proofs.Tryz
variable{k:IntKind}{a:Act}{b i n B base m fuel D B':Nat}{l ch p t0 q:List Int}{w w' w1 w2:World}{t:TypeId}{P:Int->Int->Prop}{cs:Array Value}{A A':Option Addr}{o oi:Oper}{e s f st fl:Int}{xs:List (List Int×Int×Int×Int)}{ops:Array Oper}{rest l0:List Oper}{v:Value}{r:Option Nat}{rs rs2:List (Option Addr×Nat×Nat×List Int)}{E:Prop}{vs l3:List Value}{ad ai go:List Bool}{N:Act->Prop}{place:Nat->Option (Nat×Nat)}{bad:Bool}{es es':List (Int×List Int)}{T:List TypeId}{ps:List (List Int)}
theorem disable(w:World):(callFunc 53 #[]).run prog w=.ok (.value (.tuple #[])) w:=run_call_mark0 func53 kk kk kk .disable kk w
theorem enable(w:World):(callFunc 55 #[]).run prog w=.ok (.value (.tuple #[])) w:=run_call_mark0 func55 kk kk kk .enable kk w
theorem acquire(a:Addr)(w:World):(callFunc 56 #[.pointer (some a)]).run prog w=.ok (.value (.tuple #[])) w:=run_call_marked func56 kk kk kk .acquire kk a w
theorem releaseMerge(a:Addr)(w:World):(callFunc 58 #[.pointer (some a)]).run prog w=.ok (.value (.tuple #[])) w:=run_call_marked func58 kk kk kk .releaseMerge kk a w
theorem store_any(a:Addr)(x:Value)(w:World)(hc:w.cell? a=some x)(hz:w.frozen? a=false): Calls prog 84 #[.pointer (some a),.bool true] w fun e w'=>e=.returned (.tuple #[])/\w'=w.drew.setCell a (.int .u32 1):=by
 have hc':w.drew.cell? a=some x:=by go_simp
 have hz':w.drew.frozen? a=false:=by go_simp
 have hst:=run_call_store (P:=prog) func142 kk kk kk kk (k:=.u32) (y:=1) hc' hz';go_enter func84,ntmps84
 go_wp2;go_region_calls;all_goals (go_end0;exact⟨rfl,rfl⟩)
theorem store_deferred(a:Addr)(x:Value)(u:FrameMode)(w:World)(hc:w.cell? a=some x)(hz:w.frozen? a=false): CallsD prog 84 #[.pointer (some a),.bool true] u w fun e u' w'=>u'=u/\(e=.returned (.tuple #[])/\w'=w.drew.setCell a (.int .u32 1)):=by
 have hc':w.drew.cell? a=some x:=by go_simp
 have hz':w.drew.frozen? a=false:=by go_simp
 have hst:=run_call_store (P:=prog) func142 kk kk kk kk (k:=.u32) (y:=1) hc' hz';go_enter_d func84,ntmps84;go_wp2;go_region_calls;all_goals (go_end0;exact⟨rfl,rfl⟩)
theorem unlock41(a:Addr)(w:World)(hc:w.cell? a=some (.int .i32 1))(hz:w.frozen? a=false): Calls prog 41 #[.pointer (some a)] w fun e w'=>e=.returned (.tuple #[])/\w'=w.setCell a (.int .i32 0):=by
 have hd:=disable;have he:=enable;have hr:=releaseMerge;have hadd:=run_call_add (P:=prog) func59 kk kk kk .i32 kk (y:=-1) (s:=0) hc hz (by simp[go_sem];rfl);have hcv:=run_convert_to_unsafe (P:=prog) (src:=108) (dst:=112) underlying108 underlying112 kk hc;go_enter func41,ntmps41
 go_wp2;go_end0;exact⟨rfl,rfl⟩
theorem lock40(a:Addr)(w:World)(hc:w.cell? a=some (.int .i32 0))(hz:w.frozen? a=false): Calls prog 40 #[.pointer (some a)] w fun e w'=>e=.returned (.tuple #[])/\w'=w.setCell a (.int .i32 1):=by
 have hd:=disable;have he:=enable;have ha:=acquire;have hcas:=run_call_cas_hit (P:=prog) func54 kk kk kk .i32 kk (y:=1) hc hz;have hc':(w.setCell a (.int .i32 1)).cell? a=some (.int .i32 1):=World.cell?_setCell_same w a _ hc;have hcv:=run_convert_to_unsafe (P:=prog) (src:=108) (dst:=112) underlying108 underlying112 kk hc';go_enter func40,ntmps40
 go_wp2;first|(simp only[Exit.inBlock,Exit.then];refine bodyPost_ret (results_none rfl _ _ _) rfl ?_)|refine bodyPost_ret (results_none rfl _ _ _) rfl ?_
 exact⟨rfl,rfl⟩
theorem unlock_deferred(a:Addr)(u:FrameMode)(w:World)(hc:w.cell? a=some (.int .i32 1))(hz:w.frozen? a=false): CallsD prog 23 #[.pointer (some a)] u w fun e u' w'=>u'=u/\(e=.returned (.tuple #[])/\w'=w.setCell a (.int .i32 0)):=by
 go_enter_d func23,ntmps23;go_wp2_with fail;refine(unlock41 a _ hc hz).mono ?_;rintro _ w' ⟨rfl,rfl⟩;go_wp2_with fail;go_end0;exact⟨rfl,rfl⟩
theorem lock_free(a:Addr)(w:World)(hc:w.cell? a=some (.int .i32 0))(hz:w.frozen? a=false): Calls prog 22 #[.pointer (some a)] w fun e w'=>e=.returned (.tuple #[])/\w'=w.setCell a (.int .i32 1):=by
 go_enter func22,ntmps22
 go_wp2_with fail;refine(lock40 a _ hc hz).mono ?_;rintro _ w' ⟨rfl,rfl⟩;go_wp2_with fail;go_end0;exact⟨rfl,rfl⟩
end Go.Proofs.YtppjnahcnofokaaGreat.T
namespace Go.Proofs.YtppjnahcnofokaaGreat.T
open Go.RowKit
open Go.Proofs.Tryz
variable{k:IntKind}{a:Act}{b i n B base m fuel D B':Nat}{l ch p t0 q:List Int}{w w' w1 w2:World}{t:TypeId}{P:Int->Int->Prop}{cs:Array Value}{A A':Option Addr}{o oi:Oper}{e s f st fl:Int}{xs:List (List Int×Int×Int×Int)}{ops:Array Oper}{rest l0:List Oper}{v:Value}{r:Option Nat}{rs rs2:List (Option Addr×Nat×Nat×List Int)}{E:Prop}{vs l3:List Value}{ad ai go:List Bool}{N:Act->Prop}{place:Nat->Option (Nat×Nat)}{bad:Bool}{es es':List (Int×List Int)}{T:List TypeId}{ps:List (List Int)}
structure Only (g:Nat) (w w':World):Prop where
 os:w'.os=w.os
 tape:w'.tape=w.tape
 output:w'.output=w.output
 size:w'.heap.size=w.heap.size
 block:∀k,k≠g->w'.heap[k]? = w.heap[k]?
theorem Only.refl(g:Nat)(w:World):Only g w w:=⟨rfl,rfl,rfl,rfl,fun _ _=>rfl⟩
theorem Only.drew{g:Nat}(h:Only g w w'):Only g w w'.drew:=⟨h.os,h.tape,h.output,h.size,h.block⟩
theorem Only.set{g:Nat}(h:Only g w w')(i:Nat)(v:Value):Only g w (w'.setCell ⟨g,i,none⟩ v):=
 ⟨h.os,h.tape,h.output,by simpa[World.setCell] using h.size,fun k hk=>(Below.heap_setCell _ _ _ _ hk).trans (h.block k hk)⟩
theorem key_set{g:Nat}(h:w.heap[g]? = some (.cells cs t (0,0)))(i:Nat)(v:Value):(w.setCell ⟨g,i,none⟩ v).heap[g]? = some (.cells (cs.setIfInBounds i v) t (0,0)):=by
 have hlt:=(Array.getElem?_eq_some_iff.1 h).1;have h':w.heap[g]=.cells cs t (0,0):=by simpa[Array.getElem?_eq_getElem hlt] using h
 show(w.heap.modify g _)[g]? = _;rw[Array.getElem?_eq_getElem (by simpa using hlt),Array.getElem_modify_self,h'];rfl
theorem key_cell{g:Nat}(h:w.heap[g]? = some (.cells cs t (0,0)))(i:Nat):w.cell? ⟨g,i,none⟩=cs[i]?:=cell_of_row _ _ _ _ _ _ h
theorem key_free{g:Nat}(h:w.heap[g]? = some (.cells cs t (0,0)))(i:Nat):w.frozen? ⟨g,i,none⟩=false:=by simp[World.frozen?,h]
theorem bload_any(a:Addr)(d:Int)(w:World)(hc:w.cell? a=some (.int .u32 d)):Calls prog 138 #[.pointer (some a)] w fun e w'=>e=.returned (.bool (d != 0))/\w=w':=by
 have hl:=run_call_load (P:=prog) func187 kk kk kk .u32 kk hc;go_enter func138,ntmps138
 go_wp2;go_ret;exact⟨rfl,rfl⟩
theorem pub1_any(g:Nat)(pl:Addr)(hpb:g≠pl.block)(s p m u:Int)(st:Int)(w:World)(hs:1<=s/\s<=1073741788)(hp:w.cell? pl=some (.pointer (some ⟨g,0,none⟩)))(hk:w.heap[g]? = some (.cells #[.int .i64 s,.int .u32 0,.int .i32 st,.int .u32 0,.int .i64 p,.int .u32 m,.int .i64 u] 161 (0,0))): Calls prog 82 #[.pointer (some pl)] w fun e w'=>e=.returned (.tuple #[])/\w'.heap[g]? = some (.cells #[.int .i64 s,.int .u32 0,.int .i32 st,.int .u32 0,.int .i64 (powF 4 s),.int .u32 1,.int .i64 u] 161 (0,0))/\Only g w w':=by
 have hc0:w.cell? ⟨g,0,none⟩=some (.int .i64 s):=by rw[key_cell hk];rfl
 have hc4:w.cell? ⟨g,4,none⟩=some (.int .i64 p):=by rw[key_cell hk];rfl
 have hf4:=key_free hk 4;have HK:=hd_ hk;have HP:=hd_ (pow_any 4 s · o_ ⟨by omega,by omega⟩);clear hk;go_enter func82,ntmps82
 go_wp2_with fail;refine still_tail 8 mixed kk (fun W4 hW4=>?_);refine mD ?_;have hd:∀a,w.cell? a=W4.cell? a:=fun a=>by rw[<-hW4];rfl
 have hf:∀a,w.frozen? a=W4.frozen? a:=fun a=>by rw[<-hW4];rfl
 have HO:Hid (Only g w W4):=by rw[<-hW4];exact(Only.refl _ _).drew
 have HK4:Hid (W4.heap[g]? = w.heap[g]?):=by rw[<-hW4];rfl
 rw[hd]at hc0 hc4 hp;rw[hf]at hf4;clear hd hf hW4;repeat (first|still_step|(refine wpStill_step (fun K hK=>?_);go_simp;refine⟨_,(HP.out _).mono fun _ _ h=>⟨h.1,h.2.symm⟩,hK _ ?_⟩;clear hK K))
 refine wpStill_nil ?_;have hp5:(W4.setCell ⟨g,4,none⟩ (.int .i64 (powF 4 s))).cell? pl=some (.pointer (some ⟨g,0,none⟩)):=by rw[World.cell?_setCell_far _ _ _ _ hpb];exact hp
 obtain⟨W5,hW5⟩:=ex_ (W4.setCell ⟨g,4,none⟩ (.int .i64 (powF 4 s)));have HO5:Hid (Only g w W5):=by rw[hW5];exact HO.out.set _ _
 have HK5:Hid (W5.heap[g]? = some (.cells #[.int .i64 s,.int .u32 0,.int .i32 st,.int .u32 0,.int .i64 (powF 4 s),.int .u32 m,.int .i64 u] 161 (0,0))):=by rw[hW5];exact key_set (HK4.out.trans HK.out) 4 _
 rw[<-hW5]at hp5;have HW5:=hd_ hW5;clear hW5;have hst:=HK5.out;go_wp2_with ((change wpList _ _ _ _ _ (W4.setCell ⟨g,4,none⟩ (.int .i64 (powF 4 s))));rw[<-HW5.out]);refine(store_any ⟨g,5,none⟩ (.int .u32 m) W5 (by rw[key_cell hst];rfl) (key_free hst 5)).mono ?_;rintro _ w6 ⟨rfl,hw6⟩;have HO6:Hid (Only g w w6):=by rw[hw6];exact HO5.out.drew.set _ _
 have HK6:Hid (w6.heap[g]? = some (.cells #[.int .i64 s,.int .u32 0,.int .i32 st,.int .u32 0,.int .i64 (powF 4 s),.int .u32 1,.int .i64 u] 161 (0,0))):=by rw[hw6];exact key_set (w:=W5.drew) HK5.out 5 _
 clear hw6;go_wp2_with fail;go_end0;exact⟨rfl,HK6.out,HO6.out⟩
theorem slow_any(g:Nat)(pl:Addr)(hpb:g≠pl.block)(s p m u:Int)(w:World)(hs:1<=s/\s<=1073741788)(hp:w.cell? pl=some (.pointer (some ⟨g,0,none⟩)))(hk:w.heap[g]? = some (.cells #[.int .i64 s,.int .u32 0,.int .i32 0,.int .u32 0,.int .i64 p,.int .u32 m,.int .i64 u] 161 (0,0))): Calls prog 139 #[.pointer (some ⟨g,1,none⟩),.func (.func 82) #[] #[.pointer (some pl)]] w fun e w'=>e=.returned (.tuple #[])/\w'.heap[g]? = some (.cells #[.int .i64 s,.int .u32 1,.int .i32 0,.int .u32 0,.int .i64 (powF 4 s),.int .u32 1,.int .i64 u] 161 (0,0))/\Only g w w':=by
 obtain⟨W1,hW1⟩:=ex_ (w.setCell ⟨g,2,none⟩ (.int .i32 1));have hk1:W1.heap[g]? = some (.cells #[.int .i64 s,.int .u32 0,.int .i32 1,.int .u32 0,.int .i64 p,.int .u32 m,.int .i64 u] 161 (0,0)):=by rw[hW1];exact key_set hk 2 _
 have hp1:W1.cell? pl=some (.pointer (some ⟨g,0,none⟩)):=by rw[hW1,World.cell?_setCell_far _ _ _ _ hpb];exact hp
 have HO1:Hid (Only g w W1):=by rw[hW1];exact(Only.refl _ _).set _ _
 have HBl:=hd_ (bload_any ⟨g,1,none⟩ 0 W1 (by rw[key_cell hk1];rfl));have HK1:=hd_ hk1;have hnot:∀(x:Bool) (w:World),(Op.unary .not (.bool x)).run prog w=.ok (.bool (!x)) w:=fun _ _=>rfl;have HL:=hd_ (lock_free ⟨g,2,none⟩ w (by rw[key_cell hk];rfl) (key_free hk 2));have HC:=hd_ (pub1_any g pl hpb s p m u 1 W1 hs hp1 hk1);have HW1:=hd_ hW1;clear hk hk1 hp hp1 hW1;go_enter_defers func139,ntmps139
 go_wp2_with fail;refine HL.out.mono ?_;rintro _ w' ⟨rfl,hw'⟩;rw[<-HW1.out]at hw';subst hw';go_wp2_with fail;refine HBl.out.mono ?_;rintro _ w2 ⟨rfl,rfl⟩;go_wp2_with fail;refine HC.out.mono ?_;rintro _ w3 ⟨rfl,hk3,ho3⟩;have HO3:Hid (Only g w w3):=⟨ho3.os.trans HO1.out.os,ho3.tape.trans HO1.out.tape,ho3.output.trans HO1.out.output,ho3.size.trans HO1.out.size,fun k hk=>(ho3.block k hk).trans (HO1.out.block k hk)⟩;have HK3:=hd_ hk3;clear hk3 ho3 HL HC HBl HK1 HO1;go_wp2_with fail;-- two deferred calls, the last laid first
 refine leaves_cons (f:=84) (args:=#[.pointer (some ⟨g,1,none⟩),.bool true]) s_ (by simp[go_sem]) ?_;refine(store_deferred ⟨g,1,none⟩ (.int .u32 0) .returning _ (by rw[key_cell HK3.out];rfl) (key_free HK3.out 1)).mono ?_;rintro e u' w4 ⟨rfl,rfl,hw4⟩;have hk4:w4.heap[g]? = some (.cells #[.int .i64 s,.int .u32 1,.int .i32 1,.int .u32 0,.int .i64 (powF 4 s),.int .u32 1,.int .i64 u] 161 (0,0)):=by rw[hw4];exact key_set (w:=w3.drew) HK3.out 1 _
 have HO4:Hid (Only g w w4):=by rw[hw4];exact HO3.out.drew.set _ _
 clear hw4;refine leaves_cons (f:=23) (args:=#[.pointer (some ⟨g,2,none⟩)]) (by simp[settle]) (by simp[go_sem]) ?_;refine(unlock_deferred ⟨g,2,none⟩ _ _ (by rw[key_cell hk4];rfl) (key_free hk4 2)).mono ?_;rintro e u' w5 ⟨rfl,rfl,hw5⟩;have hk5:w5.heap[g]? = some (.cells #[.int .i64 s,.int .u32 1,.int .i32 0,.int .u32 0,.int .i64 (powF 4 s),.int .u32 1,.int .i64 u] 161 (0,0)):=by rw[hw5];exact key_set hk4 2 _
 have HO5:Hid (Only g w w5):=by rw[hw5];exact HO4.out.set _ _
 clear hw5;simp[Leaves,settle,results,results139];exact⟨hk5,HO5.out⟩
theorem do_any(g:Nat)(pl:Addr)(hpb:g≠pl.block)(s p m u d:Int)(w:World)(hs:1<=s/\s<=1073741788)(hp:w.cell? pl=some (.pointer (some ⟨g,0,none⟩)))(hk:w.heap[g]? = some (.cells #[.int .i64 s,.int .u32 d,.int .i32 0,.int .u32 0,.int .i64 p,.int .u32 m,.int .i64 u] 161 (0,0)))(hd:d=0\/(d=1/\p=powF 4 s)): Calls prog 81 #[.pointer (some ⟨g,1,none⟩),.func (.func 82) #[] #[.pointer (some pl)]] w fun e w'=>e=.returned (.tuple #[])/\(∃m',w'.heap[g]? = some (.cells #[.int .i64 s,.int .u32 1,.int .i32 0,.int .u32 0,.int .i64 (powF 4 s),.int .u32 m',.int .i64 u] 161 (0,0)))/\Only g w w':=by
 have HBl:=hd_ (bload_any ⟨g,1,none⟩ d w (by rw[key_cell hk];rfl));rcases hd with rfl|⟨rfl,rfl⟩
 · have HS:=hd_ (slow_any g pl hpb s p m u w hs hp hk);clear hk hp;(go_enter func81,ntmps81);go_wp2_with fail;refine HBl.out.mono ?_;rintro _ w2 ⟨rfl,rfl⟩;go_wp2_with fail;refine HS.out.mono ?_;rintro _ w3 ⟨rfl,hk3,ho3⟩;have HK3:=hd_ hk3;clear hk3;go_wp2_with fail;go_end0;exact⟨rfl,⟨_,HK3.out⟩,ho3⟩
 have HK:=hd_ hk;clear hk hp;go_enter func81,ntmps81
 go_wp2_with fail;refine HBl.out.mono ?_;rintro _ w2 ⟨rfl,rfl⟩;go_wp2_with fail;go_end0;exact⟨rfl,⟨_,HK.out⟩,Only.refl _ _⟩
structure ChgK (g:Nat) (w w':World):Prop where
 os:w'.os=w.os
 tape:w'.tape=w.tape
 output:w'.output=w.output
 size:w.heap.size<=w'.heap.size
 block:∀k,k<w.heap.size->k≠g->w'.heap[k]? = w.heap[k]?
theorem ChgK.trans{g:Nat}{w'':World}(h:ChgK g w w')(h':ChgK g w' w''):ChgK g w w'':=
 ⟨h'.os.trans h.os,h'.tape.trans h.tape,h'.output.trans h.output,Nat.le_trans h.size h'.size,fun k hk hg=>(h'.block k (Nat.lt_of_lt_of_le hk h.size) hg).trans (h.block k hk hg)⟩
theorem ChgK.of_below{g:Nat}(h:Bl w w'):ChgK g w w':=⟨h.os,h.tape,h.output,h.size,fun k hk _=>h.block k hk⟩
theorem ChgK.of_only{g:Nat}(h:Only g w w'):ChgK g w w':=⟨h.os,h.tape,h.output,Nat.le_of_eq h.size.symm,fun k _ hg=>h.block k hg⟩
theorem public_any(g:Nat)(s:Int)(w:World)(hk:KeyAt w g s):Calls prog 50 #[.pointer (some ⟨g,0,none⟩)] w fun r w'=>r=.returned (.int .i64 (powF 4 s))/\KeyAt w' g s/\ChgK g w w':=by
 have hlt:=hk.lt;obtain⟨hs,d,p,m,u,hb,hd⟩:=hk;have hmf:∀(fn:Fn) (first cap:Array Value) (w:World),(Instr.makeFunc fn first cap).run prog w=.ok (.func fn first cap) w:=fun _ _ _ _=>rfl;obtain⟨W1,hW1⟩:=ex_ (w.alloc (.cells #[.pointer (some ⟨g,0,none⟩)] 78));have hb1:=nb_ hW1;have hk1:W1.heap[g]? = some (.cells (KeyC s d p m u) 161 (0,0)):=(hb1.block g hlt).trans hb;have hp1:W1.cell? ⟨w.heap.size,0,none⟩=some (.pointer (some ⟨g,0,none⟩)):=by rw[hW1];simp
 have HC:=hd_ (do_any g ⟨w.heap.size,0,none⟩ (by show g≠w.heap.size;omega) s p m u d W1 hs hp1 hk1 hd);have HW1:=hd_ hW1;have HP1:Hid (w.heap.size<W1.heap.size):=by rw[hW1];show _<(w.heap.push _).size;simp
 have HB1:=hd_ hb1;clear hb hd hk1 hW1 hb1;go_enter func50,ntmps50
 go_wp2_with fail;rw[<-HW1.out];refine HC.out.mono ?_;rintro _ w2 ⟨rfl,⟨m',hk2⟩,ho2⟩;have hp2:w2.cell? ⟨w.heap.size,0,none⟩=some (.pointer (some ⟨g,0,none⟩)):=by rw[World.cell?_of_block (ho2.block w.heap.size o_)];exact hp1
 have hc4:w2.cell? ⟨g,4,none⟩=some (.int .i64 (powF 4 s)):=by rw[key_cell hk2];rfl
 have HK2:=hd_ hk2;clear hk2 hmf HC hp1;go_wp2_with fail;go_ret;exact⟨rfl,⟨hs,1,_,m',u,HK2.out,.inr ⟨rfl,rfl⟩⟩,(ChgK.of_below HB1.out).trans (ChgK.of_only ho2)⟩
end Go.Proofs.YtppjnahcnofokaaGreat.T
namespace Go.Proofs.YtppjnahcnofokaaGreat.T
open Go.RowKit
open Go.Proofs.Tryz
variable{k:IntKind}{a:Act}{b i n B base m fuel D B':Nat}{l ch p t0 q:List Int}{w w' w1 w2:World}{t:TypeId}{P:Int->Int->Prop}{cs:Array Value}{A A':Option Addr}{o oi:Oper}{e s f st fl:Int}{xs:List (List Int×Int×Int×Int)}{ops:Array Oper}{rest l0:List Oper}{v:Value}{r:Option Nat}{rs rs2:List (Option Addr×Nat×Nat×List Int)}{E:Prop}{vs l3:List Value}{ad ai go:List Bool}{N:Act->Prop}{place:Nat->Option (Nat×Nat)}{bad:Bool}{es es':List (Int×List Int)}{T:List TypeId}{ps:List (List Int)}
theorem add_any(b o:Nat)(x y:Int)(w:World)(h0:w.cell? ⟨b,o,none⟩=some (.int .i64 x))(f0:w.frozen? ⟨b,o,none⟩=false): Calls prog 21 #[.pointer (some ⟨b,o,none⟩),.int .i64 y] w fun e w'=>e=.returned (.int .i64 (wrap64 (x+y)))/\w'=w.setCell ⟨b,o,none⟩ (.int .i64 (wrap64 (x+y))):=by
 have hl:=run_call_add (P:=prog) func39 kk kk kk .i64 kk (y:=y) (s:=wrap64 (x+y)) h0 f0 (by simp[go_sem,wrap64,IntKind.wrap_i64]);go_enter func21,ntmps21
 go_wp2;go_ret;exact⟨rfl,rfl⟩
theorem rdr_new(w:World)(rs:List (Option Addr×Nat×Nat×List Int))(b n:Nat)(hb:w.heap.size=b)(hn:rs.length=n)(each:∀r ∈ rs,Rd w .u8 r.1 r.2.1 r.2.2.1 r.2.2.2/\r.2.1<=60000):RdR (w.alloc (.cells (rs.map sv).toArray 31)) (some ⟨b,0,none⟩) n n 60000 rs:=by
 subst hb;refine⟨hn,⟨by rw[List.length_map,hn,Nat.mul_one],Nat.le_refl _,fun _=>⟨w.heap.size,0,rfl,by simp,fun j v hv=>?_⟩⟩,fun r hr=>⟨(each r hr).1.alloc _,(each r hr).2⟩⟩;rw[Nat.zero_add,cell_of_row _ _ _ _ _ _ (heap_alloc_new w _)];simpa using hv
theorem rd_own{c:Nat}(h:w.ownsRow base 5 1 (.slice A n c) n (ints .u8 l))(hl:l.length=n):Rd w .u8 A n c l:=by
 have:=own_rg h;exact⟨hl,this.cap,this.at_⟩
def zl:List Int:=List.replicate 32 0
theorem ChgK.below{g:Nat}(h:ChgK g w w')(hg:B<=g)(hB:B<=w.heap.size):Below B w w':=⟨h.os,h.tape,h.output,h.size,fun k hk=>h.block k o_ o_⟩
theorem shared_any(g:Nat)(s y:Int)(w:World)(hk:KeyAt w g s):Calls prog 175 #[.pointer (some ⟨g,0,none⟩),.int .i64 y] w fun r w'=>(∃l:List Int,l.length=32/\r=.returned (.tuple #[.agg (ints .u8 l).toArray,.bool (pubB y)]))/\KeyAt w' g s/\ChgK g w w':=by
 have hlt:=hk.lt;obtain⟨W1,hW1⟩:=ex_ (w.alloc (.cells (ints .u8 zl).toArray 43));have HB1:Hid (Bl w W1):=by rw[hW1];exact b0_
 have HZ1:Hid (Row W1 w.heap.size .u8 43 32):=by rw[hW1];exact Row.new zl _ rfl rfl
 have HK1:=hd_ (hk.below HB1.out hlt);have HW1:=hd_ hW1;have HIz:=hv32 (l:=zl) rfl;have HIa:=hv32a (l:=zl) rfl;clear hk hW1
 cases hq:pubB y with
 | false=>
  have HQ:=hd_ hq;have HT:Hid (W1.there w.heap.size 0 (ints .u8 zl).toArray.size):=row_there HZ1.out rfl;have hall:=all_ints .u8 zl;clear hq;go_enter func175,ntmps175
  go_wp2_with fail;change Calls prog 182 _ (w.alloc (.cells (ints .u8 zl).toArray 43)) _;rw[<-HW1.out];refine(pIs_any _ _).mono ?_;rintro _ w2 ⟨rfl,rfl⟩;rw[HQ.out];go_wp2_with (refine wpList_store_mid rfl 43 (.tmp 4) (.tmp 13) rr w.heap.size 0 (ints .u8 zl).toArray rr rr HT.out HIa.out hall ?_);have hload:=run_loadVar_mid (P:=prog) _ w.heap.size 0 43 (ints .u8 zl) _ (World.rangeAt_setCells_same W1 _ 0 (ints .u8 zl) (by simpa using HT.out)) underlying43 rfl HIz.out;refine bodyPost_ret (v:=.tuple #[.agg (ints .u8 zl).toArray,.bool false]) (by simp[results,results175,asAddr,Act.put,hload]) rfl ⟨⟨zl,rfl,rfl⟩,?_,?_⟩
  · exact HK1.out.below (below_setCells (Below.refl w.heap.size W1) (Nat.le_refl _) _ _) hlt
  exact ChgK.of_below (below_setCells HB1.out (Nat.le_refl _) _ _)
 | true=>
  have HQ:=hd_ hq;have hy:1<y/\y<2147483579:=by unfold pubB at hq;simp at hq;exact⟨hq.1.1,hq.1.2⟩
  obtain⟨hs,d,p,m,u,hkb,hd⟩:=HK1.out;have h6:W1.cell? ⟨g,6,none⟩=some (.int .i64 u):=by rw[key_cell hkb];rfl
  have hf6:=key_free hkb 6;have HS:=hd_ hs;obtain⟨W2,hW2⟩:=ex_ (W1.setCell ⟨g,6,none⟩ (.int .i64 (wrap64 (u+1))));have hk2:W2.heap[g]? = some (.cells (KeyC s d p m (wrap64 (u+1))) 161 (0,0)):=by rw[hW2];exact key_set hkb 6 _
  have HK2:Hid (KeyAt W2 g s):=⟨hs,d,p,m,_,hk2,hd⟩;have HC2:Hid (ChgK g w W2):=by rw[hW2];exact(ChgK.of_below HB1.out).trans (ChgK.of_only ((Only.refl g W1).set 6 _))
  have HZ2:Hid (Row W2 w.heap.size .u8 43 32):=by rw[hW2];exact HZ1.out.other o_ _ _
  have hc0:W2.cell? ⟨g,0,none⟩=some (.int .i64 s):=by rw[key_cell hk2];rfl
  have HA:=hd_ (add_any g 6 u 1 W1 h6 hf6);rw[<-hW2]at HA;clear hq hkb h6 hf6 hs hd hk2 hW2 HK1 HZ1;go_enter func175,ntmps175
  go_wp2_with fail;change Calls prog 182 _ (w.alloc (.cells (ints .u8 zl).toArray 43)) _;rw[<-HW1.out];refine(pIs_any _ _).mono ?_;rintro _ w2 ⟨rfl,rfl⟩;rw[HQ.out];go_wp2_with fail;refine HA.out.mono ?_;clear HA;rintro _ w2 ⟨rfl,rfl⟩;go_wp2_with fail;refine(pow_any y s _ o_ (by have:=HS.out;omega)).mono ?_;rintro _ w3 ⟨rfl,rfl⟩;go_wp2_with fail;refine(four_any _ _).mono ?_;rintro _ w4 ⟨⟨A,c,l4,rfl,ho4,hl4⟩,hb4⟩;have HO4:Hid (Rd w4 .u8 A 4 c l4):=rd_own ho4 hl4;have HK4:=hd_ (HK2.out.below hb4 HK2.out.lt);have HZ4:=hd_ (HZ2.out.below hb4 HZ2.out.lt);have HC4:=hd_ (HC2.out.trans (ChgK.of_below hb4));clear ho4 hl4 hb4 hc0 HK2 HZ2 HC2;go_wp2_with fail;change Calls prog 37 #[.agg (ints .u8 zl).toArray,_,_] _ _;have HRR:Hid (RdR (w4.alloc (.cells #[.slice A 4 c] 31)) (some ⟨w4.heap.size,0,none⟩) 1 1 60000 [(A,4,c,l4)]):=rdr_new w4 [(A,4,c,l4)] _ 1 rfl rfl (fun r hr=>by obtain rfl:=List.mem_singleton.1 hr;exact⟨HO4.out,by show 4<=_;omega⟩);refine(derive_any zl _ _ 1 1 _ _ rfl dd HRR.out o_).mono ?_;rintro _ w5 ⟨⟨l,hl,rfl⟩,hb5⟩;have hb5':Bl w4 w5:=(bal (Below.refl w4.heap.size w4)).trans (hb5.mono s_);have HK5:=hd_ (HK4.out.below hb5' HK4.out.lt);have HC5:=hd_ (HC4.out.trans (ChgK.of_below hb5'));have HT:Hid (w5.there w.heap.size 0 (ints .u8 l).toArray.size):=row_there (HZ4.out.below hb5' HZ4.out.lt) (by rw[List.size_toArray,ints_len,hl]);have HI1:=hv32 hl;have HI2:=hv32a hl;have HL:=hd_ hl;have hall:=all_ints .u8 l;have hle:w.heap.size<=w5.heap.size:=HC5.out.size;clear hl hb5 hb5' HRR;go_wp2_with (refine wpList_store_mid rfl 43 (.tmp 4) (.tmp 27) rr w.heap.size 0 (ints .u8 l).toArray rr rr HT.out HI2.out hall ?_);have hload:=run_loadVar_mid (P:=prog) _ w.heap.size 0 43 (ints .u8 l) _ (World.rangeAt_setCells_same w5 _ 0 (ints .u8 l) (by simpa using HT.out)) underlying43 rfl HI1.out;refine bodyPost_ret (v:=.tuple #[.agg (ints .u8 l).toArray,.bool true]) (by simp[results,results175,asAddr,Act.put,hload]) rfl ⟨⟨l,HL.out,rfl⟩,?_,?_⟩
  · exact HK5.out.below (below_setCells (Below.refl w.heap.size w5) (Nat.le_refl _) _ _) hlt
  have:=below_setCells (Below.refl w.heap.size w5) (Nat.le_refl _) 0 (ints .u8 l).toArray.toList;exact⟨this.os.trans HC5.out.os,this.tape.trans HC5.out.tape,this.output.trans HC5.out.output,Nat.le_trans hle this.size,fun k hk hg=>(this.block k hk).trans (HC5.out.block k hk hg)⟩
end Go.Proofs.YtppjnahcnofokaaGreat.T
namespace Go.Proofs.YtppjnahcnofokaaGreat.T
open Go.RowKit Go.Proofs.YtppjnahcnofokaaGreatW.PrintLast
open Go.Proofs.Tryz
variable{k:IntKind}{a:Act}{b i n B base m fuel D B':Nat}{l ch p t0 q:List Int}{w w' w1 w2:World}{t:TypeId}{P:Int->Int->Prop}{cs:Array Value}{A A':Option Addr}{o oi:Oper}{e s f st fl:Int}{xs:List (List Int×Int×Int×Int)}{ops:Array Oper}{rest l0:List Oper}{v:Value}{r:Option Nat}{rs rs2:List (Option Addr×Nat×Nat×List Int)}{E:Prop}{vs l3:List Value}{ad ai go:List Bool}{N:Act->Prop}{place:Nat->Option (Nat×Nat)}{bad:Bool}{es es':List (Int×List Int)}{T:List TypeId}{ps:List (List Int)}
theorem powR_rng:∀(k:Nat) (n b e:Int),(0<=n/\n<2147483579)->(0<=powR k n b e/\powR k n b e<2147483579)
 | 0,n,b,e,h=>h
 | k+1,n,b,e,h=>by
  unfold powR;split
  · refine powR_rng k _ _ _ ?_;split;(· exact⟨Int.emod_nonneg _ o_,Int.emod_lt_of_pos _ o_⟩);exact h
  exact h
theorem powF_rng(b e:Int):0<=powF b e/\powF b e<2147483579:=powR_rng 31 1 b e o_
end Go.Proofs.YtppjnahcnofokaaGreat.T
namespace Go.Proofs.YtppjnahcnofokaaGreat.T
open Go.RowKit Go.Proofs.YtppjnahcnofokaaGreatW.PrintLast
open Go.Proofs.Tryz
variable{k:IntKind}{a:Act}{b i n B base m fuel D B':Nat}{l ch p t0 q:List Int}{w w' w1 w2:World}{t:TypeId}{P:Int->Int->Prop}{cs:Array Value}{A A':Option Addr}{o oi:Oper}{e s f st fl:Int}{xs:List (List Int×Int×Int×Int)}{ops:Array Oper}{rest l0:List Oper}{v:Value}{r:Option Nat}{rs rs2:List (Option Addr×Nat×Nat×List Int)}{E:Prop}{vs l3:List Value}{ad ai go:List Bool}{N:Act->Prop}{place:Nat->Option (Nat×Nat)}{bad:Bool}{es es':List (Int×List Int)}{T:List TypeId}{ps:List (List Int)}
theorem key_u8{g:Nat}(hk:KeyAt w g s){o:Nat}{x:Int}(h:w.cell? ⟨g,o,none⟩=some (.int .u8 x)):False:=by
 obtain⟨_,d,p,m,u,hb,_⟩:=hk;rw[key_cell hb]at h;have hlt:=(Array.getElem?_eq_some_iff.1 h).1;have hs:(KeyC s d p m u).size=7:=rfl;rw[hs]at hlt;have:o=0\/o=1\/o=2\/o=3\/o=4\/o=5\/o=6:=by omega
 rcases this with rfl|rfl|rfl|rfl|rfl|rfl|rfl<;>simp[KeyC]at h
theorem Rd.chgk{g:Nat}{c:Nat}(h:Rd w .u8 A n c l)(hk:KeyAt w g s)(hc:ChgK g w w'):Rd w' .u8 A n c l:=
 ⟨h.len,h.cap,fun hp=>by
  obtain⟨b,o,e,hlt,hr⟩:=h.at_ hp
  refine⟨b,o,e,Nat.lt_of_lt_of_le hlt hc.size,fun j v hv=>?_⟩
  have hcell:=hr j v hv
  have hne:b≠g:=by
   rintro rfl
   simp only[ints,List.getElem?_map]at hv
   obtain⟨x,hx,rfl⟩:=Option.map_eq_some_iff.1 hv
   exact key_u8 hk hcell
  rw[World.cell?_of_block (hc.block b hlt hne)]
  exact hcell⟩
theorem key_range{g:Nat}{cs:List Value}(h:w.heap[g]? = some (.cells cs.toArray t (0,0))):w.rangeAt g 0 cs:=fun j v hv=>by
 rw[Nat.zero_add,key_cell h]
 simpa using hv
theorem info116:(prog.info? 116).map (·.size)=some 2:=by kernel_rfl
theorem Only.chgk_new{g:Nat}{w'':World}(h:ChgK g w w')(ho:Only b w' w'')(hb:w.heap.size<=b):ChgK g w w'':=
 ⟨ho.os.trans h.os,ho.tape.trans h.tape,ho.output.trans h.output,by rw[ho.size];exact h.size,fun k hk hg=>(ho.block k o_).trans (h.block k hk hg)⟩
theorem KeyAt.only{g:Nat}(h:KeyAt w g s)(ho:Only b w w')(hne:g≠b):KeyAt w' g s:=by
 obtain⟨hs,d,p,m,u,hb,hd⟩:=h;exact⟨hs,d,p,m,u,(ho.block g hne).trans hb,hd⟩
def cloneOk(n:Nat)(w:World)(e:Ending)(w':World):Prop:=(∃A c,e=.returned (.slice A n c)/\OwnB w' w.heap.size (.slice A n c) n)/\Bl w w'
theorem sclone_any(A:Option Addr)(n c:Nat)(l:List Int)(w:World)(hr:Rd w .u8 A n c l)(hn:n<=1000000):Calls prog 206 #[.slice A n c] w (cloneOk n w):=by
 have hq:=fun(w:World)=>Lib.run_eql_slice_nil (P:=prog) (w:=w) 31 5 A n c 0 0 underlying31
 cases A with
 | none=>
  have hc:c=0:=by(rcases Nat.eq_zero_or_pos c with h|h);(· exact h);obtain⟨b,o,e,_⟩:=hr.at_ h;cases e
  have h0:n=0:=by have:=hr.cap;omega
  subst h0 hc;clear hr;go_enter func206,ntmps206
  go_wp2;go_ret;exact⟨⟨none,0,rfl,OwnB.nil _ _⟩,Below.refl _ _⟩
 | some ad=>
  have HR:=hd_ (hr.below (w':=w.alloc (.cells #[] 5)) b0_);have HO:Hid ((w.alloc (.cells #[] 5)).ownsRow w.heap.size 5 1 (.slice (some ⟨w.heap.size,0,none⟩) 0 0) 0 (ints .u8 [])):=own_new w _ 5 1 #[] 0 _ rfl (Nat.le_refl _) o_ rfl;clear hr;go_enter func206,ntmps206
  go_wp2_with (at_builtin;refine append_rg rfl (.tmp 5) (.tmp 6) 31 rfl w.heap.size 5 1 1 et31 (.slice (some ⟨w.heap.size,0,none⟩) 0 0) 0 (ints .u8 []) rfl HO.out (some ad) n c (ints .u8 l) rfl HR.out.rg ints_one o_ (by unfold maxLen;omega) s_ ?_;intro A4 c4 w4 hown4 hgrow hb4 hat);have HO4:Hid (OwnB w4 w.heap.size (.slice A4 n c4) n):=by have:=OwnB.app (n:=0) (l:=[]) rfl HR.out.len (by simpa using hown4);exact(by simpa using this:OwnB w4 w.heap.size (.slice A4 n c4) n)
  have HB4:Hid (Bl w w4):=b0_.trans hb4;clear hown4 hgrow hb4 hat;go_wp2_with fail;go_ret;exact⟨⟨A4,c4,rfl,HO4.out⟩,HB4.out⟩
end Go.Proofs.YtppjnahcnofokaaGreat.T
namespace Go.Proofs.YtppjnahcnofokaaGreat.T
open Go.RowKit Go.Proofs.YtppjnahcnofokaaGreatW.PrintLast
open Go.Proofs.Tryz
variable{k:IntKind}{a:Act}{b i n B base m fuel D B':Nat}{l ch p t0 q:List Int}{w w' w1 w2:World}{t:TypeId}{P:Int->Int->Prop}{cs:Array Value}{A A':Option Addr}{o oi:Oper}{e s f st fl:Int}{xs:List (List Int×Int×Int×Int)}{ops:Array Oper}{rest l0:List Oper}{v:Value}{r:Option Nat}{rs rs2:List (Option Addr×Nat×Nat×List Int)}{E:Prop}{vs l3:List Value}{ad ai go:List Bool}{N:Act->Prop}{place:Nat->Option (Nat×Nat)}{bad:Bool}{es es':List (Int×List Int)}{T:List TypeId}{ps:List (List Int)}
theorem abv_rng(l k:Nat)(hl:l<8)(hk:k<=3):2*(l / 2 ^ k*2 ^ k)+2 ^ k-1<15:=by
 have e2:k=0\/k=1\/k=2\/k=3:=by omega
 rcases e2 with rfl|rfl|rfl|rfl<;>simp<;>omega
def Nodes3(w:World)(b:Nat):Prop:=∃l:List Int,l.length=3/\Blk w b .i64 128 l/\∀x ∈ l,0<=x/\x<15
theorem Nodes3.row(h:Nodes3 w b):Row w b .i64 128 3:=by obtain⟨l,h1,h2,_⟩:=h;exact⟨l,h1,h2⟩
theorem Nodes3.set(h:Nodes3 w b)(i:Nat)(x:Int)(hx:0<=x/\x<15):Nodes3 (w.setCell ⟨b,i,none⟩ (.int .i64 x)) b:=by
 obtain⟨l,h1,h2,h3⟩:=h;refine⟨_,by rw[List.length_set];exact h1,h2.set i x,fun y hy=>?_⟩;rcases List.mem_or_eq_of_mem_set hy with h|h
 · exact h3 y h
 rw[h];exact hx
theorem Nodes3.new(w:World)(b:Nat)(hb:w.heap.size=b):Nodes3 (w.alloc (.cells #[.int .i64 0,.int .i64 0,.int .i64 0] 128)) b:=
 ⟨[0,0,0],rfl,blk_new w .i64 128 [0,0,0] b hb,fun x hx=>by simp at hx;omega⟩
theorem info128:(prog.info? 128).map (·.size)=some 3:=by kernel_rfl
def Is3(r:Ending):Prop:=∃a b c:Int,(0<=a/\a<15)/\(0<=b/\b<15)/\(0<=c/\c<15)/\r=.returned (.agg #[.int .i64 a,.int .i64 b,.int .i64 c])
theorem path_any(n:Int)(w:World):Calls prog 160 #[.int .i64 n] w fun r w'=>Is3 r/\Bl w w':=by
 obtain⟨q,hq⟩:∃q,decide (0<=n/\n<8)=q:=⟨_,rfl⟩;have HQ:=hd_ hq;clear hq;go_enter func160,ntmps160
 go_wp2_with fail;go_loopw [5] (fun v wr=>∃i:Nat,v=.int .i64 i/\i<=3/\Hid (Nodes3 wr (w.heap.size+1))/\Hid (Row wr w.heap.size .i64 128 3)/\Hid (Bl w wr)) (fun v _=>3-(intOf v).toNat)
 case atStart=>exact⟨0,rfl,by omega,Nodes3.new _ _ s_,(Row.new [_,_,_] _ rfl rfl).alloc _,bal b0_⟩
 case round=>
  obtain⟨i,rfl,hi,hN,hR,hb⟩:=hrel;by_cases hlt:i<3
  · go_wp2_with fail;refine(isLeaf_any _ _).mono ?_;rintro _ w2 ⟨rfl,rfl⟩;rw[HQ.out]
    cases q with
    | false=>
     go_wp2_with fail;go_roundw;(case rel=>exact⟨i+1,by go_num,by omega,hN,hR,hb⟩);case measure=>simp[intOf];omega
    | true=>
     (have hn:0<=n/\n<8:=by simpa using HQ.out);obtain⟨m,rfl⟩:=Int.eq_ofNat_of_zero_le hn.1;(have hm:m<8:=by omega);obtain⟨y,hy⟩:=hN.out.row.at i hlt;have fy:=hN.out.row.free i;go_wp2_with fail;refine(above_any m (i+1) _ hm o_).mono ?_;rintro _ w2 ⟨rfl,rfl⟩;have hr:=abv_rng m (i+1) hm o_;generalize 2*(m / 2 ^ (i+1)*2 ^ (i+1))+2 ^ (i+1)-1=z at hr ⊢;go_wp2_with fail;exact⟨⟨i+1,by go_num,by omega,hN.out.set _ _ ⟨by omega,by omega⟩,hR.out.other o_ _ _,hb.out.setCell (Nat.le_succ _) _⟩,by simp[intOf];omega⟩
  obtain⟨l,hl,hB,hP⟩:=hN.out;obtain⟨a,b,c,rfl⟩:∃a b c,l=[a,b,c]:=by
   match l,hl with
   | [a,b,c],_=>exact⟨a,b,c,rfl⟩
  have c0:=hB.cell (i:=0) rfl;have c1:=hB.cell (i:=1) rfl;have c2:=hB.cell (i:=2) rfl;obtain⟨y0,d0⟩:=hR.out.at 0 o_;obtain⟨y1,d1⟩:=hR.out.at 1 o_;obtain⟨y2,d2⟩:=hR.out.at 2 o_;have f0:=hR.out.free 0;have f1:=hR.out.free 1;have f2:=hR.out.free 2;have HP:=hd_ hP;clear hB hl hP;go_wp2_with fail;generalize hW:World.setCell _ _ _=W2;have hBw:Blk W2 w.heap.size .i64 128 [a,b,c]:=by
   obtain⟨l,hl,hB⟩:=hR.out;obtain⟨a',b',c',rfl⟩:∃a b c,l=[a,b,c]:=by
    match l,hl with
    | [a,b,c],_=>exact⟨a,b,c,rfl⟩
   rw[<-hW];exact((hB.set 0 a).set 1 b).set 2 c
  have HB2:Hid (Bl w W2):=by rw[<-hW];exact((hb.out.setCell (Nat.le_refl _) _).setCell (Nat.le_refl _) _).setCell (Nat.le_refl _) _
  clear hW c0 c1 c2 d0 d1 d2 f0 f1 f2;have hload:=hBw.loads underlying128 rfl info128;refine bodyPost_ret (v:=.agg #[.int .i64 a,.int .i64 b,.int .i64 c]) (by simp[results,results160,asAddr,Act.put,hload,ints]) rfl ⟨⟨a,b,c,HP.out a s_,HP.out b s_,HP.out c s_,rfl⟩,HB2.out⟩
theorem common_top(a b:Nat)(ha:a<8)(hb:b<8):2*(a / 2 ^ 3*2 ^ 3)+2 ^ 3-1=2*(b / 2 ^ 3*2 ^ 3)+2 ^ 3-1:=by
 have h1:a / 2 ^ 3=0:=by simp;omega
 have h2:b / 2 ^ 3=0:=by simp;omega
 rw[h1,h2]
theorem common_any(x y:Int)(w:World):Calls prog 181 #[.int .i64 x,.int .i64 y] w fun r w'=>(∃z,r=.returned (.int .i64 z))/\w=w':=by
 obtain⟨q,hq⟩:∃q,decide (0<=x/\x<8)=q:=⟨_,rfl⟩;obtain⟨p,hp⟩:∃q,decide (0<=y/\y<8)=q:=⟨_,rfl⟩;have HQ:=hd_ hq;have HP:=hd_ hp;clear hq hp
 cases q with
 | false=>
  go_enter func181,ntmps181
  go_wp2_with fail;refine(isLeaf_any _ _).mono ?_;rintro _ w2 ⟨rfl,rfl⟩;rw[HQ.out];go_wp2_with fail;go_ret;exact⟨⟨_,rfl⟩,rfl⟩
 | true=>
  cases p with
  | false=>
   (go_enter func181,ntmps181);go_wp2_with fail;refine(isLeaf_any _ _).mono ?_;rintro _ w2 ⟨rfl,rfl⟩;rw[HQ.out];go_wp2_with fail;refine(isLeaf_any _ _).mono ?_;rintro _ w2 ⟨rfl,rfl⟩;rw[HP.out];go_wp2_with fail;go_ret;exact⟨⟨_,rfl⟩,rfl⟩
  | true=>
   (have hn:0<=x/\x<8:=by simpa using HQ.out);(have hn2:0<=y/\y<8:=by simpa using HP.out);obtain⟨a,rfl⟩:=Int.eq_ofNat_of_zero_le hn.1;obtain⟨b,rfl⟩:=Int.eq_ofNat_of_zero_le hn2.1;(have ha:a<8:=by omega);(have hb:b<8:=by omega);clear hn hn2;(go_enter func181,ntmps181);go_wp2_with fail;refine(isLeaf_any _ _).mono ?_;rintro _ w2 ⟨rfl,rfl⟩;rw[HQ.out];go_wp2_with fail;refine(isLeaf_any _ _).mono ?_;rintro _ w2 ⟨rfl,rfl⟩;rw[HP.out];go_wp2_with fail;(go_loopw [5] (fun v wr=>∃i:Nat,v=.int .i64 i/\i<=3/\w=wr) (fun v _=>3-(intOf v).toNat));(case atStart=>exact⟨0,rfl,by omega,rfl⟩);case round=>
    obtain⟨i,rfl,hi,rfl⟩:=hrel;(have HT:Hid (i=3->2*(a / 2 ^ i*2 ^ i)+2 ^ i-1=2*(b / 2 ^ i*2 ^ i)+2 ^ i-1):=by show _->_;rintro rfl;exact common_top a b ha hb);go_wp2_with fail;refine(above_any a i _ ha hi).mono ?_;rintro _ w2 ⟨rfl,rfl⟩;go_wp2_with fail;refine(above_any b i _ hb hi).mono ?_;rintro _ w2 ⟨rfl,rfl⟩;generalize 2*(a / 2 ^ i*2 ^ i)+2 ^ i-1=A at HT ⊢;generalize 2*(b / 2 ^ i*2 ^ i)+2 ^ i-1=B at HT ⊢;by_cases hab:A=B;(· subst hab;go_wp2_with fail;refine(above_any a i _ ha hi).mono ?_;rintro _ w2 ⟨rfl,rfl⟩;go_wp2_with fail;go_ret;exact⟨⟨_,rfl⟩,rfl⟩);(have hi3:i<3:=by(rcases Nat.lt_or_ge i 3 with h|h);(· exact h);exact absurd (HT.out o_) hab);(have hne:((A:Int) != (B:Int))=true:=by rw[bne_iff_ne];omega);clear hab HT;go_wp2_with fail;go_roundw;(case rel=>exact⟨i+1,by go_num,by omega,trivial⟩);case measure=>simp[intOf];omega
end Go.Proofs.YtppjnahcnofokaaGreat.T
namespace Go.Proofs.YtppjnahcnofokaaGreat.T
open Go.RowKit Go.Proofs.YtppjnahcnofokaaGreatW.PrintLast
open Go.Proofs.Tryz
variable{k:IntKind}{a:Act}{b i n B base m fuel D B':Nat}{l ch p t0 q:List Int}{w w' w1 w2:World}{t:TypeId}{P:Int->Int->Prop}{cs:Array Value}{A A':Option Addr}{o oi:Oper}{e s f st fl:Int}{xs:List (List Int×Int×Int×Int)}{ops:Array Oper}{rest l0:List Oper}{v:Value}{r:Option Nat}{rs rs2:List (Option Addr×Nat×Nat×List Int)}{E:Prop}{vs l3:List Value}{ad ai go:List Bool}{N:Act->Prop}{place:Nat->Option (Nat×Nat)}{bad:Bool}{es es':List (Int×List Int)}{T:List TypeId}{ps:List (List Int)}
def hv(m:Nat):Nat:=[0,1,0,2,0,1,0,4,0,1,0,2,0,1,0].getD m 0
def bitB(m k:Nat):Bool:=bits BinOp.and IntKind.i64 (m:Int) ((2 ^ k:Nat):Int) != 0
theorem half_tab:∀m,m<15->∀k,k<=4->(∀j,j<k->bitB m j=true)->bitB m k=false->(if k=0 then 0 else 2 ^ (k-1))=hv m:=by decide +kernel
theorem half_top:∀m,m<15->bitB m 4=false:=by decide +kernel
theorem half_any(m:Nat)(w:World)(hm:m<15):Calls prog 207 #[.int .i64 m] w fun r w'=>r=.returned (.int .i64 (hv m))/\w=w':=by
 go_enter func207,ntmps207
 go_wp2_with fail;go_loopw [3,4] (fun vn v wr=>∃k:Nat,k<=4/\v=.int .i64 ((2 ^ k:Nat):Int)/\vn=.int .i64 ((if k=0 then 0 else 2 ^ (k-1):Nat):Int)/\Hid (∀j,j<k->bitB m j=true)/\w=wr) (fun _ v _=>17-(intOf v).toNat)
 case atStart=>exact⟨0,by omega,rfl,rfl,fun j h=>by omega,rfl⟩
 case round=>
  obtain⟨k,hk,rfl,rfl,hj,rfl⟩:=hrel;have HH:=hd_ (half_tab m hm k hk hj.out);have HT:=hd_ (half_top m hm);have hk16:2 ^ k<=16:=by(have e:k=0\/k=1\/k=2\/k=3\/k=4:=by omega);rcases e with rfl|rfl|rfl|rfl|rfl<;>decide
  obtain⟨B,hB⟩:=ex_ (2 ^ k);obtain⟨C,hC⟩:=ex_ ((if k=0 then 0 else 2 ^ (k-1)))
  cases hb:bitB m k with
  | false=>
   (have hb':(bits BinOp.and IntKind.i64 (m:Int) (B:Int) != 0)=false:=by rw[hB];exact hb);rw[<-hB,<- hC];have HR:=hd_ (HH.out hb);have HC:=hd_ hC;clear hb hB hC;go_wp2_with fail;go_ret;exact⟨by rw[HC.out,HR.out];rfl,rfl⟩
  | true=>
   (have hk3:k<=3:=by(rcases Nat.lt_or_ge k 4 with h|h);(· omega);(have:k=4:=by omega);subst this;rw[HT.out]at hb;cases hb);(have hb':(bits BinOp.and IntKind.i64 (m:Int) (B:Int) != 0)=true:=by rw[hB];exact hb);rw[<-hB,<- hC];have HBk:=hd_ hB;(have HJ:Hid (∀j,j<k+1->bitB m j=true):=fun j h=>by(rcases Nat.lt_or_ge j k with h'|h');(· exact hj.out j h');(have:j=k:=by omega);rw[this];exact hb);rw[<-hB]at hk16;clear hb hB hC;(have hB1:1<=B:=by rw[HBk.out];exact Nat.one_le_two_pow);go_wp2_with fail;go_roundw;case rel=>
    refine⟨k+1,by omega,?_,?_,HJ,trivial⟩;(· have:=HBk.out;rw[Nat.pow_succ,<- this];go_num);rw[if_neg o_,Nat.add_sub_cancel,<- HBk.out]
   case measure=>simp[intOf];omega
theorem blk40(w:World)(t:List Int):Blk (w.alloc (.cells (ints .i64 t).toArray 40)) w.heap.size .i64 40 t:=blk_new _ _ _ _ _ rfl
end Go.Proofs.YtppjnahcnofokaaGreat.T
namespace Go.Proofs.YtppjnahcnofokaaGreat.T
open Go.RowKit Go.Proofs.YtppjnahcnofokaaGreatW.PrintLast
open Go.Proofs.Tryz
variable{k:IntKind}{a:Act}{b i n B base m fuel D B':Nat}{l ch p t0 q:List Int}{w w' w1 w2:World}{t:TypeId}{P:Int->Int->Prop}{cs:Array Value}{A A':Option Addr}{o oi:Oper}{e s f st fl:Int}{xs:List (List Int×Int×Int×Int)}{ops:Array Oper}{rest l0:List Oper}{v:Value}{r:Option Nat}{rs rs2:List (Option Addr×Nat×Nat×List Int)}{E:Prop}{vs l3:List Value}{ad ai go:List Bool}{N:Act->Prop}{place:Nat->Option (Nat×Nat)}{bad:Bool}{es es':List (Int×List Int)}{T:List TypeId}{ps:List (List Int)}
theorem own_mono{base' e size:Nat}{xs:List Value}(h:w.ownsRow base e size v n xs)(hb:base'<=base):w.ownsRow base' e size v n xs:=
 ⟨h.1,h.2.imp id (fun⟨g,cap,cur,h1,h2,h3⟩=>⟨g,cap,cur,h1,Nat.le_trans hb h2,h3⟩)⟩
theorem et228:ET 228 3 1 8:=et_of (z:=.int .i64 0) underlying228 kk rfl dd
theorem own_below{e size:Nat}{xs:List Value}(h:w.ownsRow base e size v n xs)(hb:Bl w w'):w'.ownsRow base e size v n xs:=
 h.kept (row:=none) ⟨hb.os,hb.tape,hb.output,hb.size,fun k hk _=>hb.block k hk⟩ (by cases hv:v.ownBlock<;>simp)
theorem step_append_rg{K:Act->World->Prop}{Q:Exit->Act->World->Prop}(hgd:o.guard=none)(s x:Operand)(t:TypeId)(ho:o.op=.call {callee:=.builtin .append,args:=#[s,x],argTypes:=#[t,t] })(base:Nat)(e:TypeId)(size bytes:Nat)(hE:ET t e size bytes)(v:Value)(n:Nat)(xs:List Value)(hs:a.eval s=v)(hown:w.ownsRow base e size v n xs)(A:Option Addr)(m c:Nat)(news:List Value)(hx:a.eval x=.slice A m c)(hr:Rg w size A m c news)(h1:∀u ∈ news,u.oneCell'=true)(hbytes:(n+m)*bytes<=140737488355328)(h63:n+m<=maxLen)(hbase:base<=w.heap.size)(h:∀A' c' w',w'.ownsRow base e size (.slice A' (n+m) c') (n+m) (xs++news)->w.grownBy w' v.ownBlock->Below base w w'->((Value.slice A' (n+m) c').ownBlock=v.ownBlock\/(Value.slice A' (n+m) c').ownBlock=some w.heap.size)->K (a.put o.dst (.slice A' (n+m) c')) w'): if Region.wanted o (yielded ops a.tmps)=true then Oper.wp prog o a w K Q else E:=by
 have hw:Region.wanted o (yielded ops a.tmps)=true:=by simp[Region.wanted,hgd]
 rw[if_pos hw];obtain⟨v',w',hrun,h2,h3,h4⟩:=run_append_rg base t e o.type size bytes hE v n xs hown A m c news hr h1 hbytes h63 hbase;unfold Oper.wp execOp;simp only[ho,resolve,invoke,builtin,Sem.run_bind,Sem.run_pure,Result.andThen_ok,List.map_toArray,List.map_cons,List.map_nil,hs,hx,hrun];have hv:∃A' c',v'=.slice A' (n+m) c':=by
  rcases h2.2 with⟨rfl,h0⟩|⟨g,cap,_,rfl,_⟩
  · exact⟨none,0,by rw[h0]⟩
  exact⟨_,_,rfl⟩
 obtain⟨A',c',rfl⟩:=hv;exact h A' c' w' h2 h3 ((Below.refl base w).grown h3 hbase (fun k hk=>(hown.lt k hk).1)) h4
def lvl(m:Nat):Nat:=[0,1,0,2,0,1,0,3,0,1,0,2,0,1,0].getD m 0
theorem kids:∀m,m<15->hv m≠0->(m-hv m<15/\lvl (m-hv m)<lvl m)/\(m+hv m<15/\lvl (m+hv m)<lvl m)/\hv m<=m:=by decide +kernel
theorem info40:(prog.info? 40).map (·.size)=some 31:=by kernel_rfl
end Go.Proofs.YtppjnahcnofokaaGreat.T
namespace Go.Proofs.YtppjnahcnofokaaGreat.T
open Go.RowKit Go.Proofs.YtppjnahcnofokaaGreatW.PrintLast
open Go.Proofs.Tryz
variable{k:IntKind}{a:Act}{b i n B base m fuel D B':Nat}{l ch p t0 q:List Int}{w w' w1 w2:World}{t:TypeId}{P:Int->Int->Prop}{cs:Array Value}{A A':Option Addr}{o oi:Oper}{e s f st fl:Int}{xs:List (List Int×Int×Int×Int)}{ops:Array Oper}{rest l0:List Oper}{v:Value}{r:Option Nat}{rs rs2:List (Option Addr×Nat×Nat×List Int)}{E:Prop}{vs l3:List Value}{ad ai go:List Bool}{N:Act->Prop}{place:Nat->Option (Nat×Nat)}{bad:Bool}{es es':List (Int×List Int)}{T:List TypeId}{ps:List (List Int)}
section
variable {P:Program}
theorem run_index_plain(w:World)(t e:TypeId)(n:Nat)(cs:Array Value)(i:Nat)(v:Value)(inf:TypeInfo)(hu:P.underlying t=some (.array n e))(hinf:P.info? e=some inf)(hs:inf.size=1)(hp:P.plainKey e=true)(hi:i<n)(h:cs[i]? = some v): (Instr.index t (.agg cs) (.int .i64 (i:Int))).run P w=.ok v w:=by
 have hn:(0:Int)<=i/\(i:Int)<n:=by omega
 have hpt:=run_part_plain (P:=P) (w:=w) hp h;simp[Instr.index,asIntOf,run_underlying hu,hn,sizeOf,typeInfo,hinf,hs,hi,hpt]
theorem run_index_agg(w:World)(t e:TypeId)(n:Nat)(cs:Array Value)(i:Nat)(inf:TypeInfo)(d:TypeDesc)(hu:P.underlying t=some (.array n e))(hinf:P.info? e=some inf)(hd:P.underlying e=some d)(hr:d.isRow=true)(hi:i<n): (Instr.index t (.agg cs) (.int .i64 (i:Int))).run P w=.ok (.agg (cs.extract (i*inf.size) (i*inf.size+inf.size))) w:=by
 have hn:(0:Int)<=i/\(i:Int)<n:=by omega
 cases d<;>simp[TypeDesc.isRow]at hr<;>simp[Instr.index,asIntOf,run_underlying hu,hn,sizeOf,typeInfo,hinf,hi,part,isAgg,run_underlying hd]
end
theorem info3:(prog.info? 3).map (fun i=>(i.zero,i.size,i.bytes))=some (some (.int .i64 0),1,8):=by kernel_rfl
theorem idx128(x y z v:Value)(i:Nat)(h:#[x,y,z][i]? = some v)(w:World):(Instr.index 128 (.agg #[x,y,z]) (.int .i64 (i:Int))).run prog w=.ok v w:=by
 obtain⟨inf,hi,_,hs,_⟩:=info_parts info3;have hlt:i<3:=(Array.getElem?_eq_some_iff.1 h).1;exact run_index_plain w 128 3 3 _ i v inf underlying128 hi hs kk hlt h
theorem wpList_index{Q:Exit->Act->World->Prop}(hgd:o.guard=none)(t:TypeId)(x y:Operand)(ho:o.op=.index t x y)(xv yv v:Value)(hx:a.eval x=xv)(hy:a.eval y=yv)(hrun:(Instr.index t xv yv).run prog w=.ok v w)(h:wpList prog ops Q rest (a.put o.dst v) w):wpList prog ops Q (o :: rest) a w:=by
 refine wpList_plain hgd fun K hK=>?_;unfold Oper.wp execOp;simp only[ho,hx,hy,Sem.run_bind,hrun,Result.andThen_ok];exact hK _ _ h
def z31:List Int:=List.replicate 31 0
theorem hi40(h:l.length=31):Hid ((prog.info? 40).map (·.size)=some (ints .i64 l).length):=by show _=_;rw[ints_len,h];exact info40
theorem hi40a(h:l.length=31):Hid ((prog.info? 40).map (·.size)=some (ints .i64 l).toArray.size):=by show _=_;rw[List.size_toArray,ints_len,h];exact info40
end Go.Proofs.YtppjnahcnofokaaGreat.T
namespace Go.Proofs.YtppjnahcnofokaaGreat.T
open Go.RowKit Go.Proofs.YtppjnahcnofokaaGreatW.PrintLast
open Go.Proofs.Tryz
variable{k:IntKind}{a:Act}{b i n B base m fuel D B':Nat}{l ch p t0 q:List Int}{w w' w1 w2:World}{t:TypeId}{P:Int->Int->Prop}{cs:Array Value}{A A':Option Addr}{o oi:Oper}{e s f st fl:Int}{xs:List (List Int×Int×Int×Int)}{ops:Array Oper}{rest l0:List Oper}{v:Value}{r:Option Nat}{rs rs2:List (Option Addr×Nat×Nat×List Int)}{E:Prop}{vs l3:List Value}{ad ai go:List Bool}{N:Act->Prop}{place:Nat->Option (Nat×Nat)}{bad:Bool}{es es':List (Int×List Int)}{T:List TypeId}{ps:List (List Int)}
theorem range_take{o:Nat}(h:w.rangeAt b o (ints k l))(m:Nat):w.rangeAt b o (ints k (l.take m)):=fun j v hv=>by
 refine h j v ?_
 rw[ints,List.map_take,List.getElem?_take]at hv
 split at hv
 · exact hv
 · cases hv
theorem range_drop{o:Nat}(h:w.rangeAt b o (ints k l))(m:Nat):w.rangeAt b (o+m) (ints k (l.drop m)):=fun j v hv=>by
 rw[show o+m+j=o+(m+j) by omega]
 refine h (m+j) v ?_
 rw[ints,List.map_drop,List.getElem?_drop]at hv
 exact hv
theorem info37:(prog.info? 37).map (·.size)=some 16:=by kernel_rfl
theorem info38:(prog.info? 38).map (·.size)=some 15:=by kernel_rfl
theorem info36:(prog.info? 36).map (fun i=>(i.zero,i.size,i.bytes))=some (some (.agg #[.int .i64 0,.int .i64 0]),2,16):=by kernel_rfl
theorem idx37(l:List Int)(hl:l.length=16)(i:Nat)(hi:i<8)(w:World):∃x y:Int,l[i*2]? = some x/\l[i*2+1]? = some y/\(Instr.index 37 (.agg (ints .i64 l).toArray) (.int .i64 (i:Int))).run prog w=.ok (.agg #[.int .i64 x,.int .i64 y]) w:=by
 obtain⟨inf,hinf,_,hs,_⟩:=info_parts info36;have h0:l[i*2]? = some l[i*2]:=List.getElem?_eq_getElem o_;have h1:l[i*2+1]? = some l[i*2+1]:=List.getElem?_eq_getElem o_;refine⟨_,_,h0,h1,?_⟩;rw[run_index_agg w 37 36 8 _ i inf _ underlying37 hinf underlying36 rfl hi,hs];have e:(ints .i64 l).toArray.extract (i*2) (i*2+2) = #[.int .i64 l[i*2],.int .i64 l[i*2+1]]:=by
  apply Array.ext
  · simp[ints,hl];omega
  intro j h1 h2;have:j=0\/j=1:=by simp at h2;omega
  rcases this with rfl|rfl<;>simp[ints]
 rw[e]
theorem idx38(l:List Int)(hl:l.length=15)(i:Nat)(hi:i<15)(w:World):∃x:Int,l[i]? = some x/\(Instr.index 38 (.agg (ints .i64 l).toArray) (.int .i64 (i:Int))).run prog w=.ok (.int .i64 x) w:=by
 obtain⟨inf,hinf,_,hs,_⟩:=info_parts info3;refine⟨_,List.getElem?_eq_getElem o_,?_⟩;exact run_index_plain w 38 3 15 _ i _ inf underlying38 hinf hs kk hi (by simpa using ints_get (List.getElem?_eq_getElem o_))
end Go.Proofs.YtppjnahcnofokaaGreat.T
