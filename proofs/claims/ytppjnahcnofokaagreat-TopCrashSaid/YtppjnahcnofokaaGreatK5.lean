import Derived.Test.YtppjnahcnofokaaGreatK0
import Derived.Test.YtppjnahcnofokaaGreatK1
import Derived.Test.YtppjnahcnofokaaGreatK2
import Derived.Test.YtppjnahcnofokaaGreatK3
import Derived.Test.YtppjnahcnofokaaGreatK4
set_option maxRecDepth 100000
set_option maxHeartbeats 32000000
set_option linter.unusedSimpArgs false
set_option linter.unusedVariables false
set_option linter.unnecessarySimpa false
namespace Go.Proofs.YtppjnahcnofokaaGreat.T
open Go.RowKit Go.Proofs.YtppjnahcnofokaaGreatW.PrintLast
open Go.Proofs.YtppjnahcnofokaaGreat.B (BookAt Chg new_book new_calls)
open Go.Proofs.Tryz
variable{k:IntKind}{a:Act}{b i n B base m fuel D B':Nat}{l ch p t0 q:List Int}{w w' w1 w2:World}{t:TypeId}{P:Int->Int->Prop}{cs:Array Value}{A A':Option Addr}{o oi:Oper}{e s f st fl:Int}{xs:List (List Int×Int×Int×Int)}{ops:Array Oper}{rest l0:List Oper}{v:Value}{r:Option Nat}{rs rs2:List (Option Addr×Nat×Nat×List Int)}{E:Prop}{vs l3:List Value}{ad ai go:List Bool}{N:Act->Prop}{place:Nat->Option (Nat×Nat)}{bad:Bool}{es es':List (Int×List Int)}{T:List TypeId}{ps:List (List Int)}
def zbk:BkD:=⟨0,.slice none 0 0,[],0,0⟩
structure NwS (w:World) (B g n:Nat) (d:WdD):Prop where
 lo:B<=g
 cel:Cel w g 74 (wdC 0 d)
 X:∀i,i<8->PyV w B (d.P i) (d.X i)
 K:∀i,i<n->d.K i=.pointer (some ⟨(d.D i).g,0,none⟩)
 K0:∀i,n<=i->d.K i=.pointer none
 D:∀i,i<n->BookAt w B (d.D i).g (d.D i).v (d.D i).es (d.D i).st (d.D i).fl/\(d.D i).st<=(d.D i).es.length/\(d.D i).v.ownBlock=none
 ne:∀i j,i<n->j<n->i≠j->(d.D i).g≠(d.D j).g
 O:d.O=.slice none 0 0
 A:d.A=.slice none 0 0
 xs:d.xs=[]
variable{d:WdD}
theorem NwS.kp{g:Nat}(h:NwS w B g n d)(hk:Kp T B' w w')(ht:∀t,t=74\/t=82\/t=161\/t=98\/t=149->t ∉ T):NwS w' B g n d:=
 ⟨h.lo,h.cel.kp hk (ht _ s_),fun i hi=>(h.X i hi).kp hk (ht _ s_) (ht _ s_),h.K,h.K0,fun i hi=>⟨bookAt_kp (h.D i hi).1 hk (ht _ s_) (ht _ s_),(h.D i hi).2⟩,h.ne,h.O,h.A,h.xs⟩
theorem NwS.below{g:Nat}(h:NwS w B g n d)(hb:Bl w w'):NwS w' B g n d:=h.kp (Kp.of_below (T:=[]) (B:=0) hb) (fun _ _ h=>by cases h)
theorem bookAt_base{base' g:Nat}(h:BookAt w base g v es st fl)(hb:base'<=base):BookAt w base' g v es st fl:=⟨Nat.le_trans hb h.lo,h.blk,own_mono h.own hb,h.ok,h.len⟩
theorem NwS.one{g:Nat}(h:NwS w B g n d)(hn:n<8)(hB:B<=w.heap.size)(hw:w'=w.alloc (.cells #[.slice none 0 0,.int .i64 0,.int .i64 0] 98)): NwS (w'.setCell ⟨g,10+n,none⟩ (.pointer (some ⟨w.heap.size,0,none⟩))) B g (n+1) (d.sD n ⟨w.heap.size,.slice none 0 0,[],0,0⟩):=by
 have hb:Bl w w':=by rw[hw];exact b0_
 have h1:=h.below hb;have hk:Kp [74] B w' (w'.setCell ⟨g,10+n,none⟩ (.pointer (some ⟨w.heap.size,0,none⟩))):=Kp.of_grown h1.cel (grownBy_set1 _ _ _ _) h1.lo;have hnew:BookAt w' B w.heap.size (.slice none 0 0) [] 0 0:=by rw[hw];exact bookAt_base (new_book w) hB
 refine⟨h.lo,?_,fun i hi=>(h1.X i hi).kp hk dd dd,fun i hi=>?_,fun i hi=>?_,fun i hi=>?_,fun i j hi hj hne=>?_,h.O,h.A,h.xs⟩
 · rw[<-wd_set_K (x:=⟨w.heap.size,.slice none 0 0,[],0,0⟩) hn];exact h1.cel.set _ _
 · show(if i=n then Value.pointer (some ⟨w.heap.size,0,none⟩) else d.K i)=.pointer (some ⟨((if i=n then ⟨w.heap.size,.slice none 0 0,[],0,0⟩ else d.D i):BkD).g,0,none⟩);by_cases e:i=n;(· rw[if_pos e,if_pos e]);rw[if_neg e,if_neg e];exact h.K i o_
 · show(if i=n then Value.pointer (some ⟨w.heap.size,0,none⟩) else d.K i)=.pointer none;rw[if_neg o_];exact h.K0 i o_
 · show BookAt _ B (if i=n then (⟨w.heap.size,.slice none 0 0,[],0,0⟩:BkD) else d.D i).g (if i=n then (⟨w.heap.size,.slice none 0 0,[],0,0⟩:BkD) else d.D i).v (if i=n then (⟨w.heap.size,.slice none 0 0,[],0,0⟩:BkD) else d.D i).es (if i=n then (⟨w.heap.size,.slice none 0 0,[],0,0⟩:BkD) else d.D i).st (if i=n then (⟨w.heap.size,.slice none 0 0,[],0,0⟩:BkD) else d.D i).fl/\(if i=n then (⟨w.heap.size,.slice none 0 0,[],0,0⟩:BkD) else d.D i).st<=(if i=n then (⟨w.heap.size,.slice none 0 0,[],0,0⟩:BkD) else d.D i).es.length/\(if i=n then (⟨w.heap.size,.slice none 0 0,[],0,0⟩:BkD) else d.D i).v.ownBlock=none;by_cases e:i=n;(· simp only[if_pos e];exact⟨bookAt_kp hnew hk dd dd,Nat.le_refl _,rfl⟩);simp only[if_neg e];exact⟨bookAt_kp (h1.D i o_).1 hk dd dd,(h1.D i o_).2⟩
 show(if i=n then (⟨w.heap.size,.slice none 0 0,[],0,0⟩:BkD) else d.D i).g≠(if j=n then (⟨w.heap.size,.slice none 0 0,[],0,0⟩:BkD) else d.D j).g;by_cases e:i=n
 · have e2:¬j=n:=fun e'=>hne (e.trans e'.symm);rw[if_pos e,if_neg e2];have:=(h.D j o_).1.lt;show w.heap.size≠_;omega
 rw[if_neg e];by_cases e2:j=n
 · rw[if_pos e2];have:=(h.D i o_).1.lt;show _≠w.heap.size;omega
 rw[if_neg e2];exact h.ne i j o_ o_ hne
theorem NwS.wd{g:Nat}(h:NwS w B g 8 d):WdAt w B g 0 d:=
 ⟨h.lo,h.cel,h.X,h.K,⟨fun i hi=>⟨(h.D i hi).1,(h.D i hi).2.1⟩,fun i j hi hj hne=>⟨h.ne i j hi hj hne,.inl (h.D i hi).2.2⟩⟩,⟨none,0,0,[],h.O,by rw[h.O];exact⟨rfl,World.ownsRow_nil _ _ _ _,fun r hr=>by cases hr⟩,by omega⟩,⟨none,0,by rw[h.A,h.xs];rfl,by rw[h.A,h.xs];exact⟨rfl,World.ownsRow_nil _ _ _ _,fun r hr=>by cases hr⟩⟩⟩
def zwd:WdD:=⟨fun _=>none,fun _=>.pointer none,fun _=>zbk,fun _=>.pointer none,.slice none 0 0,.slice none 0 0,[],0⟩
end Go.Proofs.YtppjnahcnofokaaGreat.T
namespace Go.Proofs.YtppjnahcnofokaaGreat.T
open Go.RowKit Go.Proofs.YtppjnahcnofokaaGreatW.PrintLast
open Go.Proofs.YtppjnahcnofokaaGreat.B (BookAt Chg)
open Go.Proofs.Tryz
variable{k:IntKind}{a:Act}{b i n B base m fuel D B':Nat}{l ch p t0 q:List Int}{w w' w1 w2:World}{t:TypeId}{P:Int->Int->Prop}{cs:Array Value}{A A':Option Addr}{o oi:Oper}{e s f st fl:Int}{xs:List (List Int×Int×Int×Int)}{ops:Array Oper}{rest l0:List Oper}{v:Value}{r:Option Nat}{rs rs2:List (Option Addr×Nat×Nat×List Int)}{E:Prop}{vs l3:List Value}{ad ai go:List Bool}{N:Act->Prop}{place:Nat->Option (Nat×Nat)}{bad:Bool}{es es':List (Int×List Int)}{T:List TypeId}{ps:List (List Int)}
structure Rel (who:Nat) (d d':WdD):Prop where
 oth:∀k,k<8->k≠who->d'.X k=d.X k
 own:∀x x',d.X who=some x->d'.X who=some x'->x'=x\/x'.e=wrap64 (x.e+1)
variable{d:WdD}
def StR(B g:Nat)(s:Int)(who:Nat)(d:WdD)(w:World)(r:Ending)(w':World):Prop:=(∃e,r=.returned (.int .i64 e))/\∃d',WdAt w' B g s d'/\Kp TW B w w'/\Rel who d d'/\d'.xs.length<=d.xs.length+1
theorem StR.put{g who:Nat}{o:Option PyP}(h:WdAt w' B g s d)(hk:Kp TW B w w')(hi:who<8)(hv:PyV w' B v o)(ho:∀x x',d.X who=some x->o=some x'->x'=x\/x'.e=wrap64 (x.e+1)):StR B g s who d w (.returned (.int .i64 e)) (w'.setCell ⟨g,2+who,none⟩ v):=
 ⟨⟨e,rfl⟩,_,h.put_X hi hv,hk.trans (h.kTW _ _),⟨fun k _ hne=>by show(if k=who then o else d.X k)=_;rw[if_neg hne],fun x x' h1 h2=>ho x x' h1 (by rw[<-h2];show _=(if who=who then o else d.X who);rw[if_pos rfl])⟩,Nat.le_succ _⟩
end Go.Proofs.YtppjnahcnofokaaGreat.T
namespace Go.Proofs.YtppjnahcnofokaaGreat.T
open Go.RowKit Go.Proofs.YtppjnahcnofokaaGreatW.PrintLast
open Go.Proofs.YtppjnahcnofokaaGreat.B (run_eq_hash)
open Go.Proofs.Tryz
variable{k:IntKind}{a:Act}{b i n B base m fuel D B':Nat}{l ch p t0 q:List Int}{w w' w1 w2:World}{t:TypeId}{P:Int->Int->Prop}{cs:Array Value}{A A':Option Addr}{o oi:Oper}{e s f st fl:Int}{xs:List (List Int×Int×Int×Int)}{ops:Array Oper}{rest l0:List Oper}{v:Value}{r:Option Nat}{rs rs2:List (Option Addr×Nat×Nat×List Int)}{E:Prop}{vs l3:List Value}{ad ai go:List Bool}{N:Act->Prop}{place:Nat->Option (Nat×Nat)}{bad:Bool}{es es':List (Int×List Int)}{T:List TypeId}{ps:List (List Int)}
theorem chunk{α : Type}(f:α->List Value)(m:Nat):∀(zs:List α) (_:∀z ∈ zs,(f z).length=m) (j:Nat) (hj:j<zs.length) (k:Nat) (v:Value),(f zs[j])[k]? = some v->(zs.flatMap f)[j*m+k]? = some v
 | [],_,j,hj,_,_,_=>by simp at hj
 | z :: zs,h,j,hj,k,v,hv=>by
  have hz:=h z s_;rw[List.flatMap_cons]
  cases j with
  | zero=>
   have hk:k<(f z).length:=(List.getElem?_eq_some_iff.1 hv).1;rw[Nat.zero_mul,Nat.zero_add,List.getElem?_append_left hk];exact hv
  | succ j=>
   rw[List.getElem?_append_right (by rw[hz,Nat.succ_mul];omega),hz,show(j+1)*m+k-m=j*m+k by rw[Nat.succ_mul];omega];exact chunk f m zs (fun y hy=>h y (by simp[hy])) j (by simpa using hj) k v (by simpa using hv)
theorem Aps.at{c:Nat}(h:Aps w B (.slice A n c) n xs)(j:Nat)(hj:j<n):∃b o,A=some ⟨b,o,none⟩/\b<w.heap.size/\w.rangeAt b (o+j*35) (apC (xs[j]'(by rw[h.len];exact hj))):=by
 have hi:=own_rgI h.own;have hcap:=hi.rg.cap;obtain⟨b,o,e,hlt,hr⟩:=hi.rg.at_ o_;refine⟨b,o,e,hlt,fun k v hv=>?_⟩;rw[Nat.add_assoc];exact hr _ v (chunk apC 35 xs (fun x hx=>apC_len (h.each x hx).1) j (by rw[h.len];exact hj) k v hv)
def zpn:List Value:=List.replicate 8 (.pointer none)
theorem hi176{F:List Value}(h:F.length=8):(prog.info? 176).map (·.size)=some F.length:=by rw[h];kernel_rfl
theorem hi125{x:List Int×Int×Int×Int}(h:x.1.length=32):(prog.info? 125).map (·.size)=some (apC x).length:=by rw[apC_len h];kernel_rfl
theorem hi118(a e s:Int):(prog.info? 118).map (·.size)=some ([.int .i64 a,.int .i64 e,.int .i64 s]:List Value).length:=by show _=some 3;kernel_rfl
theorem apC_one(x:List Int×Int×Int×Int):∀v ∈ apC x,v.oneCell'=true:=by
 intro v hv;rcases List.mem_append.1 hv with h|h
 · exact ints_one v h
 simp at h;rcases h with h|h|h<;>subst h<;>rfl
theorem ap_paper{x:List Int×Int×Int×Int}(h:Cel w b 125 (apC x)):w.rangeAt b 0 (ints .u8 x.1):=Cel.range (l1:=[]) (l3:=[.int .i64 x.2.1,.int .i64 x.2.2.1,.int .i64 x.2.2.2]) (by simpa[apC] using h)
theorem ap_adm{x:List Int×Int×Int×Int}(h:x.1.length=32):(apC x)[32]? = some (.int .i64 x.2.1):=by
 unfold apC;rw[List.getElem?_append_right (by rw[ints_len,h];exact Nat.le_refl _)];simp[ints_len,h]
theorem idx176(F:List Value)(hF:F.length=8)(i:Nat)(hi:i<8)(v:Value)(hv:F[i]? = some v)(w:World):(Instr.index 176 (.agg F.toArray) (.int .i64 (i:Int))).run prog w=.ok v w:=by
 obtain⟨inf,hinf⟩:=inf_of (t:=175) kk;have hs:inf.size=1:=by
  have h:(prog.info? 175).map (·.size)=some 1:=by kernel_rfl
  rw[hinf]at h;simpa using h
 have hn:(0:Int)<=i/\(i:Int)<8:=by omega
 have hu:prog.underlying 176=some (.array 8 175):=by kernel_rfl
 have hag:(isAgg 175).run prog w=.ok false w:=by
  have h0:prog.underlying 175=some (.pointer 118):=by kernel_rfl
  simp[isAgg,run_underlying h0]
 simp[Instr.index,asIntOf,run_underlying hu,hn,sizeOf,typeInfo,hinf,hi,part,hag,hs,hv]
end Go.Proofs.YtppjnahcnofokaaGreat.T
namespace Go.Proofs.YtppjnahcnofokaaGreat.T
open Go.RowKit Go.Proofs.YtppjnahcnofokaaGreatW.PrintLast
open Go.Proofs.YtppjnahcnofokaaGreat.B (BookAt Chg writeOf)
open Go.Proofs.Tryz
variable{k:IntKind}{a:Act}{b i n B base m fuel D B':Nat}{l ch p t0 q:List Int}{w w' w1 w2:World}{t:TypeId}{P:Int->Int->Prop}{cs:Array Value}{A A':Option Addr}{o oi:Oper}{e s f st fl:Int}{xs:List (List Int×Int×Int×Int)}{ops:Array Oper}{rest l0:List Oper}{v:Value}{r:Option Nat}{rs rs2:List (Option Addr×Nat×Nat×List Int)}{E:Prop}{vs l3:List Value}{ad ai go:List Bool}{N:Act->Prop}{place:Nat->Option (Nat×Nat)}{bad:Bool}{es es':List (Int×List Int)}{T:List TypeId}{ps:List (List Int)}
structure AcP where
 kd:Int
 wh:Int
 n:Int
 fr:Int
 A:Option Addr
 nA:Nat
 cA:Nat
 lA:List Int
 dr:Int
 Y:Option Addr
 nY:Nat
 cY:Nat
 lY:List Int
def acC(x:AcP):List Value:=[.int .i64 x.kd,.int .i64 x.wh,.int .i64 x.n,.int .i64 x.fr,.slice x.A x.nA x.cA,.int .i64 x.dr,.slice x.Y x.nY x.cY]
theorem ac_hi(x:AcP):(prog.info? 33).map (·.size)=some (acC x).length:=by show _=some 7;kernel_rfl
theorem Kp.fresh{c:Nat}(h:Kp T B w w1)(hg:w1.grownBy w2 (some c))(hc:w.heap.size<=c)(hB:B<=w.heap.size):Kp T B w w2:=
 ⟨hg.os.trans h.os,hg.tape.trans h.tape,hg.output.trans h.output,Nat.le_trans h.size hg.size,fun k hk hs=>(hg.block k (Nat.lt_of_lt_of_le hs h.size) s1_).trans (h.low k hk hs),
  fun k cs t fr hk ht=>(hg.block k (Nat.lt_of_lt_of_le (blk_lt hk) h.size) (by have:=blk_lt hk;simp;omega)).trans (h.blk k cs t fr hk ht)⟩
theorem Kp.bel(h:Kp T B w w1)(hb:Bl w1 w2):Kp T B w w2:=h.trans (Kp.of_below hb)
theorem Row.kp(h:Row w b k t n)(hk:Kp T B w w')(ht:t ∉ T):Row w' b k t n:=by
 obtain⟨l,hl,hb⟩:=h;exact⟨l,hl,(hk.blk b _ _ _ hb ht).trans hb⟩
theorem Blk.kp(h:Blk w b k t l)(hk:Kp T B w w')(ht:t ∉ T):Blk w' b k t l:=(hk.blk b _ _ _ h ht).trans h
variable{x:PyP}
theorem PyAt.chgk{g:Nat}(h:PyAt w b x g s)(h1:KeyAt w' g s)(hk:ChgK g w w'):PyAt w' b x g s:=⟨h.cel.kp (Kp.of_chgk (B:=0) h.key hk (Nat.zero_le _)) dd,h.ok,h.G,h1⟩
theorem Kp.of_chg{gb:Nat}(hb:BookAt w B gb v es st fl)(hr:r=v.ownBlock\/r=none)(h:Chg w w1 gb r):Kp [98,149] B w w1:=by
 have hrow:∀k,r=some k->B<=k/\∃(cs:Array Value) (fr:Nat×Nat),w.heap[k]? = some (Obj.cells cs 149 fr):=by
  intro k hk;rcases hr with e|e
  · exact own_block hb.own (e.symm.trans hk)
  rw[e]at hk;cases hk
 refine⟨h.os,h.tape,h.output,h.size,fun k hk hs=>h.block k hs (by have:=hb.lo;omega) (fun e=>by have:=(hrow k e.symm).1;omega),fun k cs t fr hk ht=>h.block k (blk_lt hk) (fun e=>?_) (fun e=>?_)⟩
 · subst e;rw[hb.blk]at hk;(injection hk with hk);(injection hk with _ hk);exact ht (by simp[<-hk])
 obtain⟨_,cs',fr',h'⟩:=hrow k e.symm;rw[h']at hk;injection hk with hk
 injection hk with _ hk
 exact ht (by simp[<-hk])
def WdD.tD(d:WdD)(i:Nat)(x:BkD):WdD:=⟨d.X,d.P,fun k=>if k=i then x else d.D k,d.K,d.O,d.A,d.xs,d.n⟩
variable{d:WdD}
theorem WdAt.turn{g:Nat}(h:WdAt w B g s d)(hi:i<8){v':Value}{st':Nat}{fl':Int}(hx:BookAt w' B (d.D i).g v' es' st' fl')(hs:st'<=es'.length)(r:Option Nat)(hrr:r=(d.D i).v.ownBlock\/(r=none/\v'=(d.D i).v))(hc:Chg w w' (d.D i).g r)(hr:v'.ownBlock=(d.D i).v.ownBlock\/∃k,v'.ownBlock=some k/\w.heap.size<=k): WdAt w' B g s (d.tD i ⟨(d.D i).g,v',es',st',fl'⟩)/\Kp TW B w w':=by
 have hk:=Kp.of_chg (h.D.at_ i hi).1 (hrr.imp id (·.1)) hc;obtain⟨A,c,e,ha⟩:=h.A;have hc':Chg w w' (d.D i).g (d.D i).v.ownBlock:=by
  rcases hrr with e|⟨e,_⟩
  · rw[<-e];exact hc
  rw[e]at hc;exact⟨hc.os,hc.tape,hc.output,hc.size,fun k h1 h2 _=>hc.block k h1 h2 s_⟩
 refine⟨⟨h.lo,h.cel.kp hk dd,fun k hk'=>(h.X k hk').kp hk dd dd,fun k hk'=>?_,h.D.turn hi hx hs rfl hc' (hr.imp id .inr),h.O.kp hk dd dd,⟨A,c,e,ha.kp hk dd⟩⟩,hk.mono dd⟩;show d.K k=.pointer (some ⟨((if k=i then (⟨(d.D i).g,v',es',st',fl'⟩:BkD) else d.D k):BkD).g,0,none⟩);by_cases e:k=i
 · rw[if_pos e,e];exact h.K i hi
 rw[if_neg e];exact h.K k hk'
theorem write_grows{x:Int}{code:Int}(h:writeOf es x q=(code,es')):∃t,es'=es++t:=by
 unfold writeOf at h;(repeat' split at h)<;>(obtain⟨_,rfl⟩:=Prod.mk.inj h)<;>first|exact⟨[],(List.append_nil _).symm⟩|exact⟨_,rfl⟩
theorem StR.via{g who:Nat}{d1:WdD}{r:Ending}(hk:Kp TW B w w1)(hX:d1.X=d.X)(hl:d1.xs.length<=d.xs.length)(h:StR B g s who d1 w1 r w2):StR B g s who d w r w2:=by
 obtain⟨he,d',h1,h2,h3,h4⟩:=h;exact⟨he,d',h1,hk.trans h2,⟨fun k hk hne=>by rw[h3.oth k hk hne,hX],fun x x' hx hx'=>h3.own x x' (by rw[hX];exact hx) hx'⟩,by omega⟩
theorem et68:ET 68 125 35 56:=et_of (z:=.agg (apC (zl,0,0,0)).toArray) underlying68 kk kk dd
theorem built125(parts:List (Nat×Value)):prog.built 125 parts=Instr.fill (#[(0,32),(32,3)][·]?) (apC (zl,0,0,0)).toArray parts:=by kernel_rfl
theorem run_build125(p:List Int)(a e s:Int)(h:p.length=32)(w:World):(Instr.build 125 #[(0,.agg (ints .u8 p).toArray),(1,.agg #[.int .i64 a,.int .i64 e,.int .i64 s])]).run prog w=.ok (.agg (apC (p,a,e,s)).toArray) w:=by
 refine run_build w 125 _ _ ?_;rw[built125];have e0:apC (zl,0,0,0)=[]++ints .u8 zl++ints .i64 [0,0,0]:=rfl;have e1:([]:List Value)++ints .u8 p++ints .i64 [0,0,0]=ints .u8 p++ints .i64 [0,0,0] ++ []:=by simp
 rw[e0,fill_splice (l1:=[]) (l0:=ints .u8 zl) (vs:=ints .u8 p) (off:=0) (size:=32) rfl rfl rfl (by rw[ints_len,h]) (by rw[ints_len,ints_len,h];rfl),e1,
  fill_splice (l1:=ints .u8 p) (l0:=ints .i64 [0,0,0]) (vs:=ints .i64 [a,e,s]) (off:=32) (size:=3) rfl rfl (by rw[ints_len,h]) rfl rfl]
 simp[Instr.fill,apC,ints]
theorem step_bs125{K:Act->World->Prop}{Q:Exit->Act->World->Prop}(hgd:o.guard=none)(X:Operand)(ho:o.op=.buildSlice 68 1 #[(0,X)])(x:List Int×Int×Int×Int)(hz:(apC x).length=35)(hx:a.eval X=.agg (apC x).toArray)(h:K (a.put o.dst (.slice (some ⟨w.heap.size,0,none⟩) 1 1)) (w.alloc (.cells (apC x).toArray 125))):if Region.wanted o (yielded ops a.tmps)=true then Oper.wp prog o a w K Q else E:=by
 have hw:Region.wanted o (yielded ops a.tmps)=true:=by simp[Region.wanted,hgd]
 rw[if_pos hw];obtain⟨ht,i,z0,hi,hz0,hsz,hby,hzs,hp⟩:=et68;refine wp_buildSlice 68 125 1 #[(0,X)] ho (apC x).toArray i z0 ht hi hz0 (by rw[hsz];decide) (by rw[hsz];decide) ?_ h;rw[hsz];simp only[List.map_toArray,List.map_cons,List.map_nil,hx];obtain⟨l0,hl0⟩:∃l0:List Value,((Array.range (1*35)).map (z0.cells[· % z0.cells.size]!))=l0.toArray:=⟨_,(Array.toArray_toList).symm⟩;rw[hl0];refine fill_one _ 35 l0 ?_ hz;have:=congrArg Array.size hl0;simpa using this.symm
end Go.Proofs.YtppjnahcnofokaaGreat.T
namespace Go.Proofs.YtppjnahcnofokaaGreat.T
open Go.RowKit Go.Proofs.YtppjnahcnofokaaGreatW.PrintLast
open Go.Proofs.YtppjnahcnofokaaGreat.B (BookAt Chg writeOf write_calls flush_calls crash_calls)
open Go.Proofs.Tryz
variable{k:IntKind}{a:Act}{b i n B base m fuel D B':Nat}{l ch p t0 q:List Int}{w w' w1 w2:World}{t:TypeId}{P:Int->Int->Prop}{cs:Array Value}{A A':Option Addr}{o oi:Oper}{e s f st fl:Int}{xs:List (List Int×Int×Int×Int)}{ops:Array Oper}{rest l0:List Oper}{v:Value}{r:Option Nat}{rs rs2:List (Option Addr×Nat×Nat×List Int)}{E:Prop}{vs l3:List Value}{ad ai go:List Bool}{N:Act->Prop}{place:Nat->Option (Nat×Nat)}{bad:Bool}{es es':List (Int×List Int)}{T:List TypeId}{ps:List (List Int)}
variable{d:WdD}
theorem WdAt.app{g:Nat}(h:WdAt w B g s d)(hk:Kp [125] B w w'){c:Nat}(hA:Aps w' B (.slice A xs.length c) xs.length xs): WdAt (w'.setCell ⟨g,19,none⟩ (.slice A xs.length c)) B g s (d.sA (.slice A xs.length c) xs)/\Kp TW B w (w'.setCell ⟨g,19,none⟩ (.slice A xs.length c)):=by
 have hc:=h.cel.kp hk dd;have hk2:Kp [74] B w' (w'.setCell ⟨g,19,none⟩ (.slice A xs.length c)):=Kp.of_grown hc (grownBy_set1 _ _ _ _) h.lo;refine⟨⟨h.lo,by rw[<-wd_set_A];exact hc.set 19 _,fun i hi=>((h.X i hi).kp hk dd dd).kp hk2 dd dd,h.K,(h.D.kp hk dd dd).kp hk2 dd dd,(h.O.kp hk dd dd).kp hk2 dd dd,⟨A,c,rfl,hA.kp hk2 dd⟩⟩,(hk.mono dd).trans (hk2.mono dd)⟩
theorem crash_n(s m:Nat)(keep:Int)(h:s<=m):∃n:Nat,(n:Int)=s+min (max keep 0) (m-s)/\n<=m:=by
 refine⟨(s+min (max keep 0) ((m:Int)-s)).toNat,?_,?_⟩
 · rw[Int.toNat_of_nonneg o_]
 omega
end Go.Proofs.YtppjnahcnofokaaGreat.T
namespace Go.Proofs.YtppjnahcnofokaaGreat.T
open Go.RowKit Go.Proofs.YtppjnahcnofokaaGreatW.PrintLast
open Go.Proofs.Tryz
variable{k:IntKind}{a:Act}{b i n B base m fuel D B':Nat}{l ch p t0 q:List Int}{w w' w1 w2:World}{t:TypeId}{P:Int->Int->Prop}{cs:Array Value}{A A':Option Addr}{o oi:Oper}{e s f st fl:Int}{xs:List (List Int×Int×Int×Int)}{ops:Array Oper}{rest l0:List Oper}{v:Value}{r:Option Nat}{rs rs2:List (Option Addr×Nat×Nat×List Int)}{E:Prop}{vs l3:List Value}{ad ai go:List Bool}{N:Act->Prop}{place:Nat->Option (Nat×Nat)}{bad:Bool}{es es':List (Int×List Int)}{T:List TypeId}{ps:List (List Int)}
theorem PyV.key2{gk:Nat}{s0 s1:Int}{o:Option PyP}(h:PyV w B v o)(h0:KeyAt w gk s0)(h1:KeyAt w' gk s1)(hk:ChgK gk w w'):PyV w' B v o:=by
 rcases h with h|⟨b,x,g,s,e1,e2,h3,h4⟩
 · exact .inl h
 by_cases e:g=gk
 · subst e;exact .inr ⟨b,x,g,s1,e1,e2,⟨h3.cel.kp (Kp.of_chgk (B:=0) h0 hk (Nat.zero_le _)) dd,h3.ok,h3.G,h1⟩,h4⟩
 refine .inr ⟨b,x,g,s,e1,e2,⟨h3.cel.kp (Kp.of_chgk (B:=0) h0 hk (Nat.zero_le _)) dd,h3.ok,h3.G,?_⟩,h4⟩;obtain⟨a1,d,p,m,u,a2,a3⟩:=h3.key;exact⟨a1,d,p,m,u,(hk.block g (blk_lt a2) e).trans a2,a3⟩
variable{d:WdD}
theorem WdAt.key2{g gk:Nat}{s0 s1:Int}(h:WdAt w B g s d)(h0:KeyAt w gk s0)(h1:KeyAt w' gk s1)(hk:ChgK gk w w'):WdAt w' B g s d:=by
 have hkp:=Kp.of_chgk (B:=0) h0 hk (Nat.zero_le _);obtain⟨A,c,e,ha⟩:=h.A;exact⟨h.lo,h.cel.kp hkp dd,fun i hi=>(h.X i hi).key2 h0 h1 hk,h.K,h.D.kp hkp dd dd,h.O.kp hkp dd dd,⟨A,c,e,ha.kp hkp dd⟩⟩
variable{x:PyP}
theorem WlL.below{c:Nat}(h:WlL w A n c)(hb:Bl w w'):WlL w' A n c:=
 ⟨h.1,fun j hj=>by
  obtain⟨b,o,z,e,hlt,hr,hz⟩:=h.2 j hj
  exact⟨b,o,z,e,Nat.lt_of_lt_of_le hlt hb.size,fun k v hv=>(hb.cell (p:=⟨b,o+j*108+k,none⟩) hlt).trans (hr k v hv),hz.below hb⟩⟩
theorem Pst.below(h:Pst w B v n rs)(hb:Bl w w'):Pst w' B v n rs:=h.kp (Kp.of_below (T:=[]) (B:=0) hb) dd dd
theorem Pst.app{c':Nat}(h:Pst w B v n rs)(h2:∀r ∈ rs2,w.ownsRow B 5 1 (sv r) r.2.1 (ints .u8 r.2.2.2)/\r.2.2.2.length=r.2.1/\r.2.1<=20000)(hl:rs2.length=m)(hown:w'.ownsRow B 31 1 (.slice A' (n+m) c') (n+m) (rs.map sv++rs2.map sv))(hk:Kp [31] B w w'):Pst w' B (.slice A' (n+m) c') (n+m) (rs++rs2):=
 ⟨by rw[List.length_append,h.len,hl],by rw[List.map_append];exact hown,fun r hr=>by
  rcases List.mem_append.1 hr with h'|h'
  · exact⟨own_kp (h.each r h').1 hk dd,(h.each r h').2⟩
  · exact⟨own_kp (h2 r h').1 hk dd,(h2 r h').2⟩⟩
theorem Pst.rg{c:Nat}(h:Pst w B (.slice A n c) n rs):Rg w 1 A n c (rs.map sv):=(own_rgI h.own).rg
theorem WdAt.posted{g:Nat}(h:WdAt w B g s d)(hk:Kp [31] B w w')(hO:PstO w' B v):WdAt (w'.setCell ⟨g,18,none⟩ v) B g s (d.sO v)/\Kp TW B w (w'.setCell ⟨g,18,none⟩ v):=by
 have hc:=h.cel.kp hk dd;have hk2:Kp [74] B w' (w'.setCell ⟨g,18,none⟩ v):=Kp.of_grown hc (grownBy_set1 _ _ _ _) h.lo;obtain⟨A,c,e,ha⟩:=h.A;refine⟨⟨h.lo,by rw[<-wd_set_O];exact hc.set 18 _,fun i hi=>((h.X i hi).kp hk dd dd).kp hk2 dd dd,h.K,(h.D.kp hk dd dd).kp hk2 dd dd,hO.kp hk2 dd dd,⟨A,c,e,(ha.kp hk dd).kp hk2 dd⟩⟩,(hk.mono dd).trans (hk2.mono dd)⟩
theorem wt130:∀t:TypeId,t=74\/t=82\/t=161\/t=98\/t=149\/t=31\/t=5\/t=125->t ∉ [130]:=by rintro _ (rfl|rfl|rfl|rfl|rfl|rfl|rfl|rfl)<;>decide
theorem own_row5{c:Nat}(h:OwnB w base (.slice A n c) n)(hB:B<=base)(hn:n<=20000):∃l,∀r ∈ [((A,n,c,l):Option Addr×Nat×Nat×List Int)],w.ownsRow B 5 1 (sv r) r.2.1 (ints .u8 r.2.2.2)/\r.2.2.2.length=r.2.1/\r.2.1<=20000:=by
 obtain⟨l,hl,ho⟩:=h;exact⟨l,fun r hr=>by simp at hr;subst hr;exact⟨own_mono ho hB,hl,hn⟩⟩
end Go.Proofs.YtppjnahcnofokaaGreat.T
namespace Go.Proofs.YtppjnahcnofokaaGreat.T
open Go.RowKit Go.Proofs.YtppjnahcnofokaaGreatW.PrintLast
open Go.Proofs.Tryz
variable{k:IntKind}{a:Act}{b i n B base m fuel D B':Nat}{l ch p t0 q:List Int}{w w' w1 w2:World}{t:TypeId}{P:Int->Int->Prop}{cs:Array Value}{A A':Option Addr}{o oi:Oper}{e s f st fl:Int}{xs:List (List Int×Int×Int×Int)}{ops:Array Oper}{rest l0:List Oper}{v:Value}{r:Option Nat}{rs rs2:List (Option Addr×Nat×Nat×List Int)}{E:Prop}{vs l3:List Value}{ad ai go:List Bool}{N:Act->Prop}{place:Nat->Option (Nat×Nat)}{bad:Bool}{es es':List (Int×List Int)}{T:List TypeId}{ps:List (List Int)}
theorem cor_pv{gk:Nat}{wn:World}{p:PyP}{s1:Int}{pn:Option Addr}(hpn:∀a,pn=some a->∃b2 x2,a=⟨b2,0,none⟩/\n<=b2/\Cel wn b2 82 (pyC x2)/\PyOk x2/\x2.e=wrap64 (p.e+1)/\x2.G=p.G/\x2.lf=p.lf)(hG:p.G=.pointer (some ⟨gk,0,none⟩))(hk:KeyAt wn gk s1)(hB:B<=gk):∃o,PyV wn B (.pointer pn) o/\∀x',o=some x'->x'.e=wrap64 (p.e+1):=by
 cases pn with
 | none=>exact⟨none,.inl ⟨rfl,rfl⟩,fun _ h=>by cases h⟩
 | some a=>
  obtain⟨b',x',rfl,h1,h2,h3,h4,h5,h6⟩:=hpn a rfl;exact⟨some x',.inr ⟨b',x',gk,s1,rfl,rfl,⟨h2,h3,h5.trans hG,hk⟩,hB⟩,fun x'' h=>by injection h with h;rw[<-h];exact h4⟩
end Go.Proofs.YtppjnahcnofokaaGreat.T
namespace Go.Proofs.YtppjnahcnofokaaGreat.T
open Go.RowKit Go.Proofs.YtppjnahcnofokaaGreatW.PrintLast
open Go.Proofs.YtppjnahcnofokaaGreat.B (crash_calls)
open Go.Proofs.Tryz
variable{k:IntKind}{a:Act}{b i n B base m fuel D B':Nat}{l ch p t0 q:List Int}{w w' w1 w2:World}{t:TypeId}{P:Int->Int->Prop}{cs:Array Value}{A A':Option Addr}{o oi:Oper}{e s f st fl:Int}{xs:List (List Int×Int×Int×Int)}{ops:Array Oper}{rest l0:List Oper}{v:Value}{r:Option Nat}{rs rs2:List (Option Addr×Nat×Nat×List Int)}{E:Prop}{vs l3:List Value}{ad ai go:List Bool}{N:Act->Prop}{place:Nat->Option (Nat×Nat)}{bad:Bool}{es es':List (Int×List Int)}{T:List TypeId}{ps:List (List Int)}
variable{d:WdD}
end Go.Proofs.YtppjnahcnofokaaGreat.T
namespace Go.Proofs.YtppjnahcnofokaaGreat.T
open Go.RowKit Go.Proofs.YtppjnahcnofokaaGreatW.PrintLast
open Go.Proofs.Tryz
variable{k:IntKind}{a:Act}{b i n B base m fuel D B':Nat}{l ch p t0 q:List Int}{w w' w1 w2:World}{t:TypeId}{P:Int->Int->Prop}{cs:Array Value}{A A':Option Addr}{o oi:Oper}{e s f st fl:Int}{xs:List (List Int×Int×Int×Int)}{ops:Array Oper}{rest l0:List Oper}{v:Value}{r:Option Nat}{rs rs2:List (Option Addr×Nat×Nat×List Int)}{E:Prop}{vs l3:List Value}{ad ai go:List Bool}{N:Act->Prop}{place:Nat->Option (Nat×Nat)}{bad:Bool}{es es':List (Int×List Int)}{T:List TypeId}{ps:List (List Int)}
variable{d:WdD}
end Go.Proofs.YtppjnahcnofokaaGreat.T
namespace Go.Proofs.YtppjnahcnofokaaGreat.T
open Go.RowKit Go.Proofs.YtppjnahcnofokaaGreatW.PrintLast
open Go.Proofs.Tryz
variable{k:IntKind}{a:Act}{b i n B base m fuel D B':Nat}{l ch p t0 q:List Int}{w w' w1 w2:World}{t:TypeId}{P:Int->Int->Prop}{cs:Array Value}{A A':Option Addr}{o oi:Oper}{e s f st fl:Int}{xs:List (List Int×Int×Int×Int)}{ops:Array Oper}{rest l0:List Oper}{v:Value}{r:Option Nat}{rs rs2:List (Option Addr×Nat×Nat×List Int)}{E:Prop}{vs l3:List Value}{ad ai go:List Bool}{N:Act->Prop}{place:Nat->Option (Nat×Nat)}{bad:Bool}{es es':List (Int×List Int)}{T:List TypeId}{ps:List (List Int)}
variable{X:Nat->Option PyP}
end Go.Proofs.YtppjnahcnofokaaGreat.T
namespace Go.Proofs.YtppjnahcnofokaaGreat.T
open Go.RowKit Go.Proofs.YtppjnahcnofokaaGreatW.PrintLast
open Go.Proofs.Tryz
variable{k:IntKind}{a:Act}{b i n B base m fuel D B':Nat}{l ch p t0 q:List Int}{w w' w1 w2:World}{t:TypeId}{P:Int->Int->Prop}{cs:Array Value}{A A':Option Addr}{o oi:Oper}{e s f st fl:Int}{xs:List (List Int×Int×Int×Int)}{ops:Array Oper}{rest l0:List Oper}{v:Value}{r:Option Nat}{rs rs2:List (Option Addr×Nat×Nat×List Int)}{E:Prop}{vs l3:List Value}{ad ai go:List Bool}{N:Act->Prop}{place:Nat->Option (Nat×Nat)}{bad:Bool}{es es':List (Int×List Int)}{T:List TypeId}{ps:List (List Int)}
theorem Kp.under(h:Bl w w1)(hk:Kp T w.heap.size w1 w2):Bl w w2:=
 ⟨hk.os.trans h.os,hk.tape.trans h.tape,hk.output.trans h.output,Nat.le_trans h.size hk.size,fun k hk'=>(hk.low k hk' (Nat.lt_of_lt_of_le hk' h.size)).trans (h.block k hk')⟩
def zac:AcP:=⟨0,0,0,0,none,0,0,[],0,none,0,0,[]⟩
theorem run_field45(e k:Int)(t ch:List Int)(ad:List Bool)(w:World):(Instr.field 45 (.agg (vw e t ad k ch).toArray) 0).run prog w=.ok (.int .i64 e) w:=by
 unfold Instr.field;simp only[Sem.run_bind,run_underlying underlying45,Result.andThen_ok,asAgg,Sem.run_pure];have hu:prog.underlying 3=some (.int .i64):=by kernel_rfl
 have hag:(isAgg 3).run prog w=.ok false w:=by simp[isAgg,run_underlying hu]
 have h0:(vw e t ad k ch)[0]? = some (.int .i64 e):=by simp[vw]
 simp[part,hag,h0]
variable{x:PyP}
theorem PtR.some{o:Option PyP}{r:Ending}(h:PtR w o r w')(e:o=some x):∃b,r=.returned (.pointer (some ⟨b,0,none⟩))/\Cel w' b 82 (pyC x)/\PyOk x:=by
 subst e;rcases h with⟨e,_⟩|⟨b,y,e,h1,_,h2,h3⟩
 · cases e
 injection e with e
 subst e;exact⟨b,h1,h2,h3⟩
theorem PtR.none{o:Option PyP}{r:Ending}(h:PtR w o r w')(e:o=none):r=.returned (.pointer none):=by
 subst e;rcases h with⟨_,h⟩|⟨b,y,e,_⟩
 · exact h
 cases e
end Go.Proofs.YtppjnahcnofokaaGreat.T
namespace Go.Proofs.YtppjnahcnofokaaGreat.T
open Go.RowKit Go.Proofs.YtppjnahcnofokaaGreatW.PrintLast
open Go.Proofs.Tryz
variable{k:IntKind}{a:Act}{b i n B base m fuel D B':Nat}{l ch p t0 q:List Int}{w w' w1 w2:World}{t:TypeId}{P:Int->Int->Prop}{cs:Array Value}{A A':Option Addr}{o oi:Oper}{e s f st fl:Int}{xs:List (List Int×Int×Int×Int)}{ops:Array Oper}{rest l0:List Oper}{v:Value}{r:Option Nat}{rs rs2:List (Option Addr×Nat×Nat×List Int)}{E:Prop}{vs l3:List Value}{ad ai go:List Bool}{N:Act->Prop}{place:Nat->Option (Nat×Nat)}{bad:Bool}{es es':List (Int×List Int)}{T:List TypeId}{ps:List (List Int)}
def NodesO(w:World)(b i:Nat):Prop:=∃l:List Int,l.length=3/\Blk w b .i64 128 l/\(∀x ∈ l,0<=x/\x<15)/\∀j,j<i->∀x,l[j]? = some x->x % 2=1
theorem NodesO.row(h:NodesO w b i):Row w b .i64 128 3:=by obtain⟨l,h1,h2,_⟩:=h;exact⟨l,h1,h2⟩
theorem NodesO.set(h:NodesO w b i)(hi:i<3)(x:Int)(hx:0<=x/\x<15)(ho:x % 2=1):NodesO (w.setCell ⟨b,i,none⟩ (.int .i64 x)) b (i+1):=by
 obtain⟨l,h1,h2,h3,h4⟩:=h;refine⟨_,by rw[List.length_set];exact h1,h2.set i x,fun y hy=>?_,fun j hj y hy=>?_⟩
 · (rcases List.mem_or_eq_of_mem_set hy with h|h);(· exact h3 y h);rw[h];exact hx
 by_cases e:j=i
 · subst e;rw[List.getElem?_set_self o_]at hy;cases hy;exact ho
 rw[List.getElem?_set_ne (fun h=>e h.symm)]at hy;exact h4 j o_ y hy
theorem NodesO.new(w:World)(b:Nat)(hb:w.heap.size=b):NodesO (w.alloc (.cells #[.int .i64 0,.int .i64 0,.int .i64 0] 128)) b 0:=
 ⟨[0,0,0],rfl,blk_new w .i64 128 [0,0,0] b hb,fun x hx=>by simp at hx;omega,fun _ h=>by omega⟩
theorem abv_odd(l k:Nat)(hl:l<8)(hk:k<=2):(2*(l / 2 ^ (k+1)*2 ^ (k+1))+2 ^ (k+1)-1) % 2=1:=by
 have e2:k=0\/k=1\/k=2:=by omega
 rcases e2 with rfl|rfl|rfl<;>simp<;>omega
def IsO3(r:Ending):Prop:=∃a b c:Int,(0<=a/\a<15/\a % 2=1)/\(0<=b/\b<15/\b % 2=1)/\(0<=c/\c<15/\c % 2=1)/\r=.returned (.agg #[.int .i64 a,.int .i64 b,.int .i64 c])
theorem path_f(n:Int)(w:World)(hn8:0<=n/\n<8):Calls prog 160 #[.int .i64 n] w fun r w'=>IsO3 r/\Bl w w':=by
 obtain⟨q,hq⟩:∃q,decide (0<=n/\n<8)=q:=⟨_,rfl⟩;have hqt:q=true:=by rw[<-hq];simpa using hn8
 have HQ:=hd_ hq;clear hq;go_enter func160,ntmps160
 go_wp2_with fail;go_loopw [5] (fun v wr=>∃i:Nat,v=.int .i64 i/\i<=3/\Hid (NodesO wr (w.heap.size+1) i)/\Hid (Row wr w.heap.size .i64 128 3)/\Hid (Bl w wr)) (fun v _=>3-(intOf v).toNat)
 case atStart=>exact⟨0,rfl,by omega,NodesO.new _ _ s_,(Row.new [_,_,_] _ rfl rfl).alloc _,bal b0_⟩
 case round=>
  obtain⟨i,rfl,hi,hN,hR,hb⟩:=hrel;by_cases hlt:i<3
  · go_wp2_with fail;refine(isLeaf_any _ _).mono ?_;rintro _ w2 ⟨rfl,rfl⟩;rw[HQ.out]
    cases q with
    | false=>cases hqt
    | true=>
     (have hn:0<=n/\n<8:=by simpa using HQ.out);obtain⟨m,rfl⟩:=Int.eq_ofNat_of_zero_le hn.1;(have hm:m<8:=by omega);obtain⟨y,hy⟩:=hN.out.row.at i hlt;have fy:=hN.out.row.free i;go_wp2_with fail;refine(above_any m (i+1) _ hm o_).mono ?_;rintro _ w2 ⟨rfl,rfl⟩;have hr:=abv_rng m (i+1) hm o_;have ho:=abv_odd m i hm o_;generalize 2*(m / 2 ^ (i+1)*2 ^ (i+1))+2 ^ (i+1)-1=z at hr ho ⊢;go_wp2_with fail;exact⟨⟨i+1,by go_num,by omega,hN.out.set hlt _ ⟨by omega,by omega⟩ o_,hR.out.other o_ _ _,hb.out.setCell (Nat.le_succ _) _⟩,by simp[intOf];omega⟩
  obtain⟨l,hl,hB,hP,hO⟩:=hN.out;obtain rfl:i=3:=by omega
  obtain⟨a,b,c,rfl⟩:∃a b c,l=[a,b,c]:=by
   match l,hl with
   | [a,b,c],_=>exact⟨a,b,c,rfl⟩
  have c0:=hB.cell (i:=0) rfl;have c1:=hB.cell (i:=1) rfl;have c2:=hB.cell (i:=2) rfl;obtain⟨y0,d0⟩:=hR.out.at 0 o_;obtain⟨y1,d1⟩:=hR.out.at 1 o_;obtain⟨y2,d2⟩:=hR.out.at 2 o_;have f0:=hR.out.free 0;have f1:=hR.out.free 1;have f2:=hR.out.free 2;have HP:Hid ((0<=a/\a<15/\a % 2=1)/\(0<=b/\b<15/\b % 2=1)/\(0<=c/\c<15/\c % 2=1)):=⟨⟨(hP a s_).1,(hP a s_).2,hO 0 o_ a rfl⟩,⟨(hP b s_).1,(hP b s_).2,hO 1 o_ b rfl⟩,⟨(hP c s_).1,(hP c s_).2,hO 2 o_ c rfl⟩⟩;clear hB hl hP hO;go_wp2_with fail;generalize hW:World.setCell _ _ _=W2;have hBw:Blk W2 w.heap.size .i64 128 [a,b,c]:=by
   obtain⟨l,hl,hB⟩:=hR.out;obtain⟨a',b',c',rfl⟩:∃a b c,l=[a,b,c]:=by
    match l,hl with
    | [a,b,c],_=>exact⟨a,b,c,rfl⟩
   rw[<-hW];exact((hB.set 0 a).set 1 b).set 2 c
  have HB2:Hid (Bl w W2):=by rw[<-hW];exact((hb.out.setCell (Nat.le_refl _) _).setCell (Nat.le_refl _) _).setCell (Nat.le_refl _) _
  clear hW c0 c1 c2 d0 d1 d2 f0 f1 f2;have hload:=hBw.loads underlying128 rfl info128;refine bodyPost_ret (v:=.agg #[.int .i64 a,.int .i64 b,.int .i64 c]) (by simp[results,results160,asAddr,Act.put,hload,ints]) rfl ⟨⟨a,b,c,HP.out.1,HP.out.2.1,HP.out.2.2,rfl⟩,HB2.out⟩
structure PutOk (t:List Int) (m:Nat) (a b:Int) (l:List Int):Prop where
 len:l.length=31
 s:l.getD (m*2) 0=a
 e:l.getD (m*2+1) 0=b
 oth:∀j,j<16->j≠m*2->j≠m*2+1->l.getD j 0=t.getD j 0
 nod:∀j,16<=j->l.getD j 0=t.getD j 0\/l.getD j 0=0
theorem getD_set_self{x:Int}(h:i<l.length):(l.set i x).getD i 0=x:=by
 rw[List.getD_eq_getElem?_getD,List.getElem?_set_self h];rfl
theorem getD_set_ne{j:Nat}{x:Int}(h:i≠j):(l.set i x).getD j 0=l.getD j 0:=by
 rw[List.getD_eq_getElem?_getD,List.getElem?_set_ne h,<- List.getD_eq_getElem?_getD]
theorem PutOk.first{t:List Int}(ht:t.length=31)(m:Nat)(hm:m<8)(a b:Int):PutOk t m a b ((t.set (m*2) a).set (m*2+1) b):=by
 refine⟨by simp[ht],?_,?_,fun j h1 h2 h3=>?_,fun j hj=>.inl ?_⟩
 · rw[getD_set_ne o_,getD_set_self o_]
 · rw[getD_set_self (by simp[ht];omega)]
 · rw[getD_set_ne o_,getD_set_ne o_]
 rw[getD_set_ne o_,getD_set_ne o_]
theorem PutOk.zero{t:List Int}{a b:Int}(h:PutOk t m a b l)(hm:m<8)(j:Nat)(hj:16<=j)(hj2:j<31):PutOk t m a b (l.set j 0):=by
 obtain⟨h1,h2,h3,h4,h5⟩:=h;refine⟨by simp[h1],?_,?_,fun i h6 h7 h8=>?_,fun i hi=>?_⟩
 · rw[getD_set_ne o_];exact h2
 · rw[getD_set_ne o_];exact h3
 · rw[getD_set_ne o_];exact h4 i h6 h7 h8
 by_cases e:j=i
 · subst e;exact .inr (getD_set_self o_)
 rw[getD_set_ne e];exact h5 i hi
def PutW(t:List Int)(m:Nat)(a b:Int)(w:World)(g:Nat):Prop:=∃l,Blk w g .i64 40 l/\PutOk t m a b l
theorem PutW.row{t:List Int}{g:Nat}{a b:Int}(h:PutW t m a b w g):Row w g .i64 40 31:=by obtain⟨l,h1,h2⟩:=h;exact⟨l,h2.len,h1⟩
theorem PutW.zero{t:List Int}{g:Nat}{a b:Int}(h:PutW t m a b w g)(hm:m<8)(j:Nat)(hj:j<15):PutW t m a b (w.setCell ⟨g,16+j,none⟩ (.int .i64 0)) g:=by
 obtain⟨l,h1,h2⟩:=h;exact⟨_,h1.set _ _,h2.zero hm _ o_ o_⟩
theorem PutW.below{t:List Int}{g:Nat}{a b:Int}(h:PutW t m a b w g)(hb:Below B w w')(hg:g<B):PutW t m a b w' g:=by
 obtain⟨l,h1,h2⟩:=h;exact⟨l,h1.below hb hg,h2⟩
theorem PutW.lt{t:List Int}{g:Nat}{a b:Int}(h:PutW t m a b w g):g<w.heap.size:=h.row.lt
theorem put_f(t:List Int)(m:Nat)(a b:Int)(w:World)(ht:t.length=31)(hm:m<8):Calls prog 213 #[.agg (ints .i64 t).toArray,.int .i64 m,.agg #[.int .i64 a,.int .i64 b]] w fun r w'=>(∃l,PutOk t m a b l/\r=.returned (.agg (ints .i64 l).toArray))/\Bl w w':=by
 obtain⟨W1,hW⟩:=ex_ (((w.alloc (.cells (ints .i64 t).toArray 40)).alloc (.cells #[.int .i64 a,.int .i64 b] 36)).alloc (.cells (ints .i64 z31).toArray 40));have HT:Hid (Blk W1 w.heap.size .i64 40 t):=by rw[hW];exact(blk_new _ .i64 40 t _ rfl).below (bal b0_) s_
 have HTL:=hd_ ht;have HX:Hid (Blk W1 (w.heap.size+1) .i64 36 [a,b]):=by rw[hW];exact(blk_new _ .i64 36 [a,b] _ s_).below b0_ s_
 have HZ:Hid (Row W1 (w.heap.size+1+1) .i64 40 31):=by rw[hW];exact Row.new z31 _ rfl s_
 have Hb:Hid (Bl w W1):=by rw[hW];exact bal (bal b0_)
 have HW:=hd_ hW;have HIz:=hi40 (l:=z31) rfl;have HIa:=hi40a (l:=z31) rfl;obtain⟨q,hq⟩:∃q,decide (0<=(m:Int)/\(m:Int)<8)=q:=⟨_,rfl⟩;have hqt:q=true:=by rw[<-hq];simp;omega
 have HQ:=hd_ hq;clear hq hW
 cases q with
 | false=>cases hqt
 | true=>
  have hx0:=HX.out.cell (i:=0) rfl
  have hx1:=HX.out.cell (i:=1) rfl
  have hrow:Row W1 w.heap.size .i64 40 31:=⟨t,ht,HT.out⟩
  obtain⟨y0,hy0⟩:=(hrow:Row W1 w.heap.size .i64 40 31).at (m*2) o_
  obtain⟨y1,hy1⟩:=hrow.at (m*2+1) o_
  have fy0:=HT.out.free (m*2)
  have fy1:=HT.out.free (m*2+1)
  go_enter func213,ntmps213
  go_wp2_with fail
  change Calls prog 196 _ (((w.alloc (.cells (ints .i64 t).toArray 40)).alloc (.cells #[.int .i64 a,.int .i64 b] 36)).alloc (.cells (ints .i64 z31).toArray 40)) _
  rw[<-HW.out]
  refine(isLeaf_any _ _).mono ?_
  rintro _ w2 ⟨rfl,rfl⟩
  rw[HQ.out]
  go_wp2_with fail
  generalize hW2:World.setCell _ _ _=W2
  have HT2:Hid (PutW t m a b W2 w.heap.size):=by rw[<-hW2];exact⟨_,(HT.out.set _ _).set _ _,.first HTL.out m hm a b⟩
  have HZ2:Hid (Row W2 (w.heap.size+1+1) .i64 40 31):=by rw[<-hW2];exact(HZ.out.other o_ _ _).other o_ _ _
  have Hb2:Hid (Bl w W2):=by rw[<-hW2];exact(Hb.out.setCell (Nat.le_refl _) _).setCell (Nat.le_refl _) _
  clear hW2 hrow ht hy0 hy1 fy0 fy1 hx0 hx1 HT HX HZ Hb
  refine(path_f _ _ ⟨by omega,by omega⟩).mono ?_
  rintro _ w3 ⟨⟨p0,p1,p2,h0,h1,h2,rfl⟩,hb3⟩
  obtain⟨n0,rfl⟩:=Int.eq_ofNat_of_zero_le h0.1
  obtain⟨n1,rfl⟩:=Int.eq_ofNat_of_zero_le h1.1
  obtain⟨n2,rfl⟩:=Int.eq_ofNat_of_zero_le h2.1
  have g0:n0<15:=by omega
  have g1:n1<15:=by omega
  have g2:n2<15:=by omega
  have HT3:=hd_ (HT2.out.below hb3 HT2.out.lt)
  have HZ3:=hd_ (HZ2.out.below hb3 HZ2.out.lt)
  have Hb3:=tb_ Hb2 hb3
  clear hb3 HT2 HZ2 Hb2 h0 h1 h2
  go_wp2_with fail
  go_loopw [19] (fun v wr=>∃i:Int,v=.int .i64 i/\0<=i/\i<=3/\Hid (PutW t m a b wr w.heap.size)/\Hid (Row wr (w.heap.size+1+1) .i64 40 31)/\Hid (Bl w wr)) (fun v _=>(3-intOf v).toNat)
  case atStart=>exact⟨0,rfl,by omega,by omega,HT3.out,HZ3.out,Hb3.out⟩
  case round=>
   clear HT3 HZ3 Hb3
   obtain⟨i,rfl,hi0,hi3,hT,hZ,hb⟩:=hrel
   by_cases hlt:i<3
   · have hcell:=hT.out.row.at;have hfree:=hT.out.row.free;(have e:i=0\/i=1\/i=2:=by omega);(rcases e with rfl|rfl|rfl);(case' inl=>obtain⟨y,hy⟩:=hcell (16+n0) o_;have fy:=hfree (16+n0);have hix:=hd_ (idx128 (.int .i64 n0) (.int .i64 n1) (.int .i64 n2) _ 0 rfl));(case' inr.inl=>obtain⟨y,hy⟩:=hcell (16+n1) o_;have fy:=hfree (16+n1);have hix:=hd_ (idx128 (.int .i64 n0) (.int .i64 n1) (.int .i64 n2) _ 1 rfl));(case' inr.inr=>obtain⟨y,hy⟩:=hcell (16+n2) o_;have fy:=hfree (16+n2);have hix:=hd_ (idx128 (.int .i64 n0) (.int .i64 n1) (.int .i64 n2) _ 2 rfl))
     all_goals
      clear hcell hfree hlt hi0 hi3
      go_wp2_with (refine wpList_index rfl 128 (.tmp 18) (.tmp 19) rfl _ _ _ rr rr (hix.out _) ?_)
      exact⟨⟨_,rfl,by omega,by omega,hT.out.zero hm _ o_,hZ.out.other o_ _ _,hb.out.setCell (Nat.le_refl _) _⟩,by simp[intOf]⟩
   · (have hie:i=3:=by omega);subst hie;obtain⟨l,hBl,hpo⟩:=hT.out;have hl:=hpo.len;have HPO:=hd_ hpo;have HTh:Hid (wr.there (w.heap.size+1+1) 0 (ints .i64 l).toArray.size):=row_there hZ.out (by rw[List.size_toArray,ints_len,hl]);have HI1:=hi40 hl;have HI2:=hi40a hl;have HL:=hd_ hl;have HBl:=hd_ hBl;have hall:=all_ints .i64 l;clear hlt hi0 hi3 hl hBl hpo
     go_wp2_with (first
      | (refine wpList_load_mid rfl 40 (.tmp 3) rr w.heap.size 0 rr (ints .i64 l) _ HBl.out.range underlying40 rfl HI1.out ?_)
      | (refine wpList_store_mid rfl 40 (.tmp 6) (.tmp 26) rr (w.heap.size+1+1) 0 (ints .i64 l).toArray rr rr HTh.out HI2.out hall ?_))
     have hload:=run_loadVar_mid (P:=prog) _ (w.heap.size+1+1) 0 40 (ints .i64 l) _ (World.rangeAt_setCells_same wr _ 0 (ints .i64 l) (by simpa using HTh.out)) underlying40 rfl HI1.out;refine bodyPost_ret (v:=.agg (ints .i64 l).toArray) (by simp[results,results213,asAddr,Act.put,hload]) rfl ⟨⟨l,HPO.out,rfl⟩,?_⟩;exact below_setCells hb.out o_ _ _
structure TreeOk (t:List Int):Prop where
 len:t.length=31
 leaf:∀i,i<8->keyB (t.getD (i*2) 0)=true/\keyB (t.getD (i*2+1) 0)=true/\(t.getD (i*2) 0=0↔t.getD (i*2+1) 0=0)
 node:∀i,i<15->keyB (t.getD (16+i) 0)=true/\(i % 2=0->t.getD (16+i) 0=0)
theorem getD_take{t:List Int}(h:i<n):(t.take n).getD i 0=t.getD i 0:=by
 rw[List.getD_eq_getElem?_getD,List.getElem?_take,if_pos h,<- List.getD_eq_getElem?_getD]
theorem getD_drop{t:List Int}:(t.drop n).getD i 0=t.getD (n+i) 0:=by
 rw[List.getD_eq_getElem?_getD,List.getElem?_drop,<- List.getD_eq_getElem?_getD]
theorem getD_of{x:Int}(h:l[i]? = some x):l.getD i 0=x:=by rw[List.getD_eq_getElem?_getD,h];rfl
def LfO(l:List Int)(i:Nat):Prop:=keyB (l.getD (i*2) 0)=true/\keyB (l.getD (i*2+1) 0)=true/\(l.getD (i*2) 0=0↔l.getD (i*2+1) 0=0)
def NdO(l:List Int)(i:Nat):Prop:=keyB (l.getD i 0)=true/\(i % 2=0->l.getD i 0=0)
def memB(t:List Int)(i:Nat):Bool:=(t.getD (i*2) 0 != 0) || (t.getD (i*2+1) 0 != 0)
def MemF(t:List Int)(n:Int)(r:Ending):Prop:=∃b,r=.returned (.bool b)/\(b=true->0<=n/\n<8/\memB t n.toNat=true)/\(0<=n->n<8->memB t n.toNat=true->b=true)
theorem isMember_f(e k n:Int)(t ch:List Int)(ad:List Bool)(w:World)(h:VwOk t ad ch):Calls prog 149 #[.agg (vw e t ad k ch).toArray,.int .i64 n] w fun r w'=>MemF t n r/\Bl w w':=by
 obtain⟨w1,hW⟩:=ex_ (w.alloc (.cells (vw e t ad k ch).toArray 45));have HC:Hid (Cel w1 w.heap.size 45 (vw e t ad k ch)):=by rw[hW];exact Cel.new _ rfl rfl
 have HV:=hd_ h;have HW:=hd_ hW;clear hW h;go_enter func149,ntmps149
 by_cases h0:0<=n
 · by_cases h8:n<8
   · obtain⟨m,rfl⟩:=Int.eq_ofNat_of_zero_le h0;(have hm:m*2+1<31:=by omega);(have c0:(w.alloc (.cells (vw e t ad k ch).toArray 45)).cell? ⟨w.heap.size,1+m*2,none⟩=some (.int .i64 (t.getD (m*2) 0)):=by rw[<-HW.out,HC.out.cell];exact vw_tree HV.out (m*2) o_);(have c1:(w.alloc (.cells (vw e t ad k ch).toArray 45)).cell? ⟨w.heap.size,1+m*2+1,none⟩=some (.int .i64 (t.getD (m*2+1) 0)):=by rw[<-HW.out,HC.out.cell];exact vw_tree HV.out (m*2+1) hm);have hmb:memB t ((m:Int)).toNat=((t.getD (m*2) 0 != 0) || (t.getD (m*2+1) 0 != 0)):=rfl;generalize t.getD (m*2) 0=x0 at c0 hmb;generalize t.getD (m*2+1) 0=x1 at c1 hmb;have HMB:=hd_ hmb;clear hmb;by_cases hx0:x0=0
     · by_cases hx1:x1=0
       · subst hx0 hx1;go_wp2
         all_goals
          go_ret
          exact⟨⟨_,rfl,by simp,fun _ _ h=>by rw[HMB.out]at h;simp at h⟩,b0_⟩
       subst hx0;go_wp2
       all_goals
        go_ret
        exact⟨⟨_,rfl,fun _=>⟨h0,h8,by rw[HMB.out];simp[hx1]⟩,fun _ _ _=>by simp[hx1]⟩,b0_⟩
     go_wp2
     all_goals
      go_ret
      exact⟨⟨_,rfl,fun _=>⟨h0,h8,by rw[HMB.out];simp[hx0]⟩,fun _ _ _=>by simp[hx0]⟩,b0_⟩
   go_wp2;go_ret;exact⟨⟨_,rfl,by simp,fun _ _=>by omega⟩,b0_⟩
 go_wp2;go_ret;exact⟨⟨_,rfl,by simp,fun _ _=>by omega⟩,b0_⟩
def admN(ad:List Bool):Nat->Nat
 | 0=>0
 | i+1=>admN ad i+(if ad.getD i false=true then 1 else 0)
theorem idx41_f(l:List Bool)(hl:l.length=8)(i:Nat)(hi:i<8)(w:World):(Instr.index 41 (.agg (bools l).toArray) (.int .i64 (i:Int))).run prog w=.ok (.bool (l.getD i false)) w:=by
 obtain⟨inf,hinf,_,hs,_⟩:=info_parts info4;have e:l.getD i false=l[i]:=by rw[List.getD_eq_getElem?_getD,List.getElem?_eq_getElem o_];rfl
 rw[e];exact run_index_plain w 41 4 8 _ i _ inf underlying41 hinf hs kk hi (by simp[bools,List.getElem?_eq_getElem (show i<l.length by omega)])
theorem admN_le(ad:List Bool):∀i,admN ad i<=i
 | 0=>Nat.le_refl _
 | i+1=>by have:=admN_le ad i;unfold admN;split<;>omega
theorem adm_wrap(n i:Nat)(h:n<=i)(hi:i<8):wrap64 ((n:Int)+1)=((n+(if (true=true) then 1 else 0):Nat):Int):=by
 rw[if_pos rfl];unfold wrap64;omega
end Go.Proofs.YtppjnahcnofokaaGreat.T
namespace Go.Proofs.YtppjnahcnofokaaGreat.T
open Go.RowKit
open Go.Proofs.Tryz
variable{k:IntKind}{a:Act}{b i n B base m fuel D B':Nat}{l ch p t0 q:List Int}{w w' w1 w2:World}{t:TypeId}{P:Int->Int->Prop}{cs:Array Value}{A A':Option Addr}{o oi:Oper}{e s f st fl:Int}{xs:List (List Int×Int×Int×Int)}{ops:Array Oper}{rest l0:List Oper}{v:Value}{r:Option Nat}{rs rs2:List (Option Addr×Nat×Nat×List Int)}{E:Prop}{vs l3:List Value}{ad ai go:List Bool}{N:Act->Prop}{place:Nat->Option (Nat×Nat)}{bad:Bool}{es es':List (Int×List Int)}{T:List TypeId}{ps:List (List Int)}
theorem two63':(2:Int) ^ 63=9223372036854775808:=by decide
theorem even_bit(i:Nat)(hi:i<9223372036854775808):bits BinOp.and IntKind.i64 (i:Int) 1=((i % 2:Nat):Int):=by
 have h:=bits_mask .i64 63 dd (fun n h0 h1=>by rw[two63']at h1;rw[IntKind.wrap_i64];omega) 1 dd (i:Int) o_ (by rw[two63'];omega);have e:((2:Int) ^ 1-1)=1:=by decide
 rw[e]at h;rw[h];omega
theorem sq_pow(n b e:Nat):(n*b % 2147483579)*(b*b % 2147483579) ^ e % 2147483579=n*b ^ (2*e+1) % 2147483579:=by
 rw[Nat.mul_mod,Nat.mod_mod,<- Nat.pow_mod,<- Nat.mul_mod,Nat.pow_succ,Nat.pow_mul,Nat.pow_two];congr 1;rw[Nat.mul_assoc,Nat.mul_comm b]
theorem sq_pow0(n b e:Nat):n*(b*b % 2147483579) ^ e % 2147483579=n*b ^ (2*e) % 2147483579:=by
 rw[Nat.mul_mod,<- Nat.pow_mod,<- Nat.mul_mod,Nat.pow_mul,Nat.pow_two]
theorem powR_nat:∀(k n b e:Nat),n<2147483579->e<2 ^ k->k<=60->powR k n b e=((n*b ^ e % 2147483579:Nat):Int)
 | 0,n,b,e,hn,he,_=>by
  have:e=0:=by simpa using he
  subst this;simp only[powR,Nat.pow_zero,Nat.mul_one];rw[Nat.mod_eq_of_lt hn]
 | k+1,n,b,e,hn,he,hk=>by
  unfold powR;by_cases h0:0<(e:Int)
  · rw[if_pos h0];(have he2:e / 2<2 ^ k:=by rw[Nat.pow_succ]at he;omega);(have e1:(e:Int) / 2=((e / 2:Nat):Int):=by omega);(have e2:(b:Int)*b % 2147483579=((b*b % 2147483579:Nat):Int):=by simp);(have e3:(n:Int)*b % 2147483579=((n*b % 2147483579:Nat):Int):=by simp);have hb:e<9223372036854775808:=Nat.lt_of_lt_of_le he (Nat.le_trans (Nat.pow_le_pow_right dd (show k+1<=61 by omega)) dd);rw[even_bit e hb,e1,e2,e3];by_cases ho:e % 2=1;(· rw[if_pos (by simp[ho]),powR_nat k _ _ _ (Nat.mod_lt _ dd) he2 o_,sq_pow];congr 4;omega);rw[if_neg s1_,powR_nat k _ _ _ hn he2 o_,sq_pow0];congr 4;omega
  rw[if_neg h0];have:e=0:=by omega
  subst this;rw[Nat.pow_zero,Nat.mul_one,Nat.mod_eq_of_lt hn]
theorem powF_nat(b e:Nat)(he:e<2147483648):powF b e=((b ^ e % 2147483579:Nat):Int):=by
 have:=powR_nat 31 1 b e dd he dd;rw[Nat.one_mul]at this;exact this
def noDiv:Nat->Nat->Bool
 | 0,lo=>1073741789 % lo != 0
 | k+1,lo=>noDiv k lo&&noDiv k (lo+2 ^ k)
theorem noDiv_spec:∀(k lo d:Nat),noDiv k lo=true->lo<=d->d<lo+2 ^ k->1073741789 % d≠0
 | 0,lo,d,h,h1,h2=>by
  have:d=lo:=by simp at h2;omega
  subst this;simpa[noDiv] using h
 | k+1,lo,d,h,h1,h2=>by
  simp only[noDiv,Bool.and_eq_true]at h;by_cases hd:d<lo+2 ^ k
  · exact noDiv_spec k lo d h.1 h1 hd
  exact noDiv_spec k (lo+2 ^ k) d h.2 o_ (by rw[Nat.pow_succ]at h2;omega)
theorem noDiv_all:noDiv 15 2=true:=by kernel_rfl
theorem q_prime(d:Nat)(h:d ∣ 1073741789)(hd:d≠1073741789):d=1:=by
 obtain⟨m,hm⟩:=h;have small:∀x y:Nat,1073741789=x*y->2<=x->x<32770->False:=fun x y e h1 h2=>
  noDiv_spec 15 2 x noDiv_all h1 h2 (by rw[e];exact Nat.mul_mod_right _ _)
 by_cases hx:d<32770
 · by_cases h2:2<=d;(· exact(small d m hm h2 hx).elim);(have:d=0\/d=1:=by omega);(rcases this with rfl|rfl);(· omega);rfl
 exfalso;by_cases hy:m<32770
 · by_cases h2:2<=m;(· exact small m d (by rw[Nat.mul_comm];exact hm) h2 hy);(have:m=0\/m=1:=by omega);rcases this with rfl|rfl<;>omega
 have:32770*32770<=d*m:=Nat.mul_le_mul o_ o_;omega
theorem four_q:∃q:Nat,q=1073741789/\4 ^ q % 2147483579=1:=by
 obtain⟨q,hq⟩:∃q:Nat,q=1073741789:=⟨_,rfl⟩;refine⟨q,hq,?_⟩;have h:=powF_nat 4 q o_;have h2:powF 4 1073741789=1:=by kernel_rfl
 have e:(1073741789:Int)=(q:Int):=by omega
 rw[e]at h2;have h3:powF 4 (q:Int)=((4 ^ q % 2147483579:Nat):Int):=h;rw[h2]at h3;generalize 4 ^ q % 2147483579=x at h3 ⊢;omega
theorem pow_one_mod(a b:Nat)(h:a ^ b % 2147483579=1)(c:Nat):a ^ (b*c) % 2147483579=1:=by
 rw[Nat.pow_mul,Nat.pow_mod,h,Nat.one_pow]
theorem gcd_one:∀m n:Nat,4 ^ m % 2147483579=1->4 ^ n % 2147483579=1->4 ^ (Nat.gcd m n) % 2147483579=1:=by
 intro m n
 induction m,n using Nat.gcd.induction with
 | H0 n=>intro _ h;rwa [Nat.gcd_zero_left]
 | H1 m n hm ih=>
  intro h1 h2;rw[Nat.gcd_rec];refine ih ?_ h1;have e:n=m*(n / m)+n % m:=(Nat.div_add_mod n m).symm;rw[e,Nat.pow_add,Nat.mul_mod,pow_one_mod 4 m h1,Nat.one_mul,Nat.mod_mod]at h2;exact h2
theorem pub_gen(s:Int)(h:1<=s/\s<=1073741788):pubB (powF 4 s)=true:=by
 obtain⟨n,rfl⟩:∃n:Nat,s=n:=⟨s.toNat,by omega⟩;obtain⟨q,hqq,four⟩:=four_q;have hn:1<=n/\n<q:=by omega
 have h1:powF 4 (n:Int)=((4 ^ n % 2147483579:Nat):Int):=powF_nat 4 n o_;have hlt:4 ^ n % 2147483579<2147483579:=Nat.mod_lt _ dd;have hq:(4 ^ n % 2147483579) ^ q % 2147483579=1:=by rw[<-Nat.pow_mod,<- Nat.pow_mul,Nat.mul_comm,pow_one_mod 4 _ four]
 have y1:4 ^ n % 2147483579≠1:=by
  intro hy;have hg:=gcd_one n q hy four;have hd:Nat.gcd n q≠q:=fun e=>by have:=Nat.gcd_le_left q (show 0<n by omega);omega
  rw[hqq]at hd;have hv:=Nat.gcd_dvd_right n q;rw[hqq]at hv hg;rw[q_prime _ hv hd]at hg;exact absurd hg dd
 generalize hy:4 ^ n % 2147483579=y at *;have h3:powF (y:Int) (q:Int)=((y ^ q % 2147483579:Nat):Int):=powF_nat y q o_;have y0:y≠0:=by rintro rfl;rw[Nat.zero_pow o_]at hq;exact absurd hq dd
 have e:(1073741789:Int)=(q:Int):=by omega
 rw[h1];unfold pubB;rw[e,h3,hq];simp;omega
end Go.Proofs.YtppjnahcnofokaaGreat.T
namespace Go.Proofs.YtppjnahcnofokaaGreat.T
open Go.RowKit Go.Proofs.YtppjnahcnofokaaGreatW.PrintLast
open Go.Proofs.Tryz
variable{k:IntKind}{a:Act}{b i n B base m fuel D B':Nat}{l ch p t0 q:List Int}{w w' w1 w2:World}{t:TypeId}{P:Int->Int->Prop}{cs:Array Value}{A A':Option Addr}{o oi:Oper}{e s f st fl:Int}{xs:List (List Int×Int×Int×Int)}{ops:Array Oper}{rest l0:List Oper}{v:Value}{r:Option Nat}{rs rs2:List (Option Addr×Nat×Nat×List Int)}{E:Prop}{vs l3:List Value}{ad ai go:List Bool}{N:Act->Prop}{place:Nat->Option (Nat×Nat)}{bad:Bool}{es es':List (Int×List Int)}{T:List TypeId}{ps:List (List Int)}
structure MayV (e k:Int) (t:List Int) (ad:List Bool):Prop where
 e0:0<=e
 e1:e<=1099511627776
 tree:TreeOk t
 k1:1<=k
 kn:k<=admN ad 8
 mem:∀j,j<8->ad.getD j false=true->memB t j=true
end Go.Proofs.YtppjnahcnofokaaGreat.T
namespace Go.Proofs.YtppjnahcnofokaaGreat.T
open Go.RowKit Go.Proofs.YtppjnahcnofokaaGreatW.PrintLast
open Go.Proofs.Tryz
variable{k:IntKind}{a:Act}{b i n B base m fuel D B':Nat}{l ch p t0 q:List Int}{w w' w1 w2:World}{t:TypeId}{P:Int->Int->Prop}{cs:Array Value}{A A':Option Addr}{o oi:Oper}{e s f st fl:Int}{xs:List (List Int×Int×Int×Int)}{ops:Array Oper}{rest l0:List Oper}{v:Value}{r:Option Nat}{rs rs2:List (Option Addr×Nat×Nat×List Int)}{E:Prop}{vs l3:List Value}{ad ai go:List Bool}{N:Act->Prop}{place:Nat->Option (Nat×Nat)}{bad:Bool}{es es':List (Int×List Int)}{T:List TypeId}{ps:List (List Int)}
theorem pub_key{x:Int}(h:pubB x=true):keyB x=true/\x≠0:=by
 refine⟨by unfold keyB;rw[h];simp,?_⟩;unfold pubB at h;simp at h;omega
theorem PutOk.tree{t:List Int}{a b:Int}(h:PutOk t m a b l)(ht:TreeOk t)(hk:keyB a=true/\keyB b=true/\(a=0↔b=0)):TreeOk l:=by
 refine⟨h.len,fun i hi=>?_,fun i hi=>?_⟩
 · by_cases e:i=m;(· subst e;rw[h.s,h.e];exact hk);rw[h.oth (i*2) o_ o_ o_,h.oth (i*2+1) o_ o_ o_];exact ht.leaf i hi
 rcases h.nod (16+i) o_ with e|e
 · rw[e];exact ht.node i hi
 rw[e];exact⟨by decide,fun _=>rfl⟩
theorem PutOk.mem{t:List Int}{a b:Int}(h:PutOk t m a b l)(i:Nat)(hi:i<8)(e:i≠m):memB l i=memB t i:=by
 unfold memB;rw[h.oth (i*2) o_ o_ o_,h.oth (i*2+1) o_ o_ o_]
theorem PutOk.mem_self{t:List Int}{a b:Int}(h:PutOk t m a b l)(ha:a≠0):memB l m=true:=by
 unfold memB;rw[h.s];simp[ha]
theorem getDb_set_ne{l:List Bool}{j:Nat}{x:Bool}(h:i≠j):(l.set i x).getD j false=l.getD j false:=by
 rw[List.getD_eq_getElem?_getD,List.getElem?_set_ne h,<- List.getD_eq_getElem?_getD]
end Go.Proofs.YtppjnahcnofokaaGreat.T
namespace Go.Proofs.YtppjnahcnofokaaGreat.T
open Go.RowKit Go.Proofs.YtppjnahcnofokaaGreatW.PrintLast
open Go.Proofs.Tryz
variable{k:IntKind}{a:Act}{b i n B base m fuel D B':Nat}{l ch p t0 q:List Int}{w w' w1 w2:World}{t:TypeId}{P:Int->Int->Prop}{cs:Array Value}{A A':Option Addr}{o oi:Oper}{e s f st fl:Int}{xs:List (List Int×Int×Int×Int)}{ops:Array Oper}{rest l0:List Oper}{v:Value}{r:Option Nat}{rs rs2:List (Option Addr×Nat×Nat×List Int)}{E:Prop}{vs l3:List Value}{ad ai go:List Bool}{N:Act->Prop}{place:Nat->Option (Nat×Nat)}{bad:Bool}{es es':List (Int×List Int)}{T:List TypeId}{ps:List (List Int)}
structure ApK (e k f:Int) (t:List Int) (ad:List Bool) (k2:Int) (t2:List Int) (ad2 go:List Bool):Prop where
 old:MayV e k t ad
 new:MayV e k2 t2 ad2
 keep:∀i,i<8->memB t i=true->memB t2 i=true\/go.getD i false=true
 frm:∀i:Nat,i<8->(i:Int)=f->memB t2 i=true
end Go.Proofs.YtppjnahcnofokaaGreat.T
namespace Go.Proofs.YtppjnahcnofokaaGreat.T
open Go.RowKit Go.Proofs.YtppjnahcnofokaaGreatW.PrintLast
open Go.Proofs.Tryz
variable{k:IntKind}{a:Act}{b i n B base m fuel D B':Nat}{l ch p t0 q:List Int}{w w' w1 w2:World}{t:TypeId}{P:Int->Int->Prop}{cs:Array Value}{A A':Option Addr}{o oi:Oper}{e s f st fl:Int}{xs:List (List Int×Int×Int×Int)}{ops:Array Oper}{rest l0:List Oper}{v:Value}{r:Option Nat}{rs rs2:List (Option Addr×Nat×Nat×List Int)}{E:Prop}{vs l3:List Value}{ad ai go:List Bool}{N:Act->Prop}{place:Nat->Option (Nat×Nat)}{bad:Bool}{es es':List (Int×List Int)}{T:List TypeId}{ps:List (List Int)}
structure KeyedOk (t:List Int) (m:Nat) (s p0 p1 p2:Int) (l:List Int):Prop where
 len:l.length=31
 e:l.getD (m*2+1) 0=s
 oth:∀j,j<16->j≠m*2+1->l.getD j 0=t.getD j 0
 nod:∀j,j<15->l.getD (16+j) 0=t.getD (16+j) 0\/(j % 2=1/\(l.getD (16+j) 0=p0\/l.getD (16+j) 0=p1\/l.getD (16+j) 0=p2))
theorem KeyedOk.first{t:List Int}(ht:t.length=31)(m:Nat)(hm:m<8)(s p0 p1 p2:Int):KeyedOk t m s p0 p1 p2 (t.set (m*2+1) s):=by
 refine⟨by simp[ht],getD_set_self o_,fun j h1 h2=>getD_set_ne (fun h=>h2 h.symm),fun j hj=>.inl (getD_set_ne o_)⟩
theorem KeyedOk.node{t:List Int}{p0 p1 p2:Int}(h:KeyedOk t m s p0 p1 p2 l)(hm:m<8)(z:Nat)(hz:z<15)(ho:z % 2=1)(y:Int)(hy:y=p0\/y=p1\/y=p2):KeyedOk t m s p0 p1 p2 (l.set (16+z) y):=by
 obtain⟨h1,h2,h3,h4⟩:=h;refine⟨by simp[h1],?_,fun j h5 h6=>?_,fun j hj=>?_⟩
 · rw[getD_set_ne o_];exact h2
 · rw[getD_set_ne o_];exact h3 j h5 h6
 by_cases e:z=j
 · subst e;rw[getD_set_self o_];exact .inr ⟨ho,hy⟩
 rw[getD_set_ne o_];exact h4 j hj
theorem mem_both{t:List Int}(ht:TreeOk t)(hi:i<8)(h:memB t i=true):t.getD (i*2) 0≠0/\t.getD (i*2+1) 0≠0:=by
 have:=(ht.leaf i hi).2.2;unfold memB at h;simp at h;by_cases e:t.getD (i*2) 0=0
 · exact absurd (this.1 e) (by rcases h with h|h;exact absurd e h;exact h)
 exact⟨e,fun e2=>e (this.2 e2)⟩
theorem KeyedOk.tree{t:List Int}{p0 p1 p2:Int}(h:KeyedOk t m s p0 p1 p2 l)(hm:m<8)(ht:TreeOk t)(hmem:memB t m=true)(hk:pubB s=true/\pubB p0=true/\pubB p1=true/\pubB p2=true):TreeOk l:=by
 refine⟨h.len,fun i hi=>?_,fun i hi=>?_⟩
 · by_cases e:i=m;(· subst e;have h0:=h.oth (i*2) o_ o_;have hb:=mem_both ht hi hmem;have:=pub_key hk.1;rw[h.e,h0];exact⟨(ht.leaf i hi).1,this.1,⟨fun e=>absurd e hb.1,fun e=>absurd e this.2⟩⟩);rw[h.oth (i*2) o_ o_,h.oth (i*2+1) o_ o_];exact ht.leaf i hi
 rcases h.nod i hi with e|⟨ho,e⟩
 · rw[e];exact ht.node i hi
 refine⟨?_,fun h=>by omega⟩;rcases e with e|e|e<;>rw[e]
 · exact(pub_key hk.2.1).1
 · exact(pub_key hk.2.2.1).1
 exact(pub_key hk.2.2.2).1
theorem KeyedOk.mem{t:List Int}{p0 p1 p2:Int}(h:KeyedOk t m s p0 p1 p2 l)(hs:pubB s=true)(i:Nat)(hi:i<8)(hmem:memB t i=true):memB l i=true:=by
 by_cases e:i=m
 · subst e;unfold memB;rw[h.e];simp[(pub_key hs).2]
 unfold memB at hmem ⊢;rw[h.oth (i*2) o_ o_,h.oth (i*2+1) o_ o_];exact hmem
end Go.Proofs.YtppjnahcnofokaaGreat.T
namespace Go.Proofs.YtppjnahcnofokaaGreat.T
open Go.RowKit Go.Proofs.YtppjnahcnofokaaGreatW.PrintLast
open Go.Proofs.Tryz
variable{k:IntKind}{a:Act}{b i n B base m fuel D B':Nat}{l ch p t0 q:List Int}{w w' w1 w2:World}{t:TypeId}{P:Int->Int->Prop}{cs:Array Value}{A A':Option Addr}{o oi:Oper}{e s f st fl:Int}{xs:List (List Int×Int×Int×Int)}{ops:Array Oper}{rest l0:List Oper}{v:Value}{r:Option Nat}{rs rs2:List (Option Addr×Nat×Nat×List Int)}{E:Prop}{vs l3:List Value}{ad ai go:List Bool}{N:Act->Prop}{place:Nat->Option (Nat×Nat)}{bad:Bool}{es es':List (Int×List Int)}{T:List TypeId}{ps:List (List Int)}
structure MayP (x:PyP):Prop where
 v:MayV x.e x.k x.t x.ad
 l:0<=x.lf/\x.lf<8
 m:memB x.t x.lf.toNat=true
theorem z31_getD(i:Nat):z31.getD i 0=0:=by
 rw[List.getD_eq_getElem?_getD,z31,List.getElem?_replicate];split<;>rfl
theorem tree_zero:TreeOk z31:=⟨rfl,fun i _=>by rw[z31_getD,z31_getD];exact⟨by decide,by decide,Iff.rfl⟩,fun i _=>by rw[z31_getD];exact⟨by decide,fun _=>rfl⟩⟩
theorem tree_one{a b:Int}(ha:pubB a=true)(hb:pubB b=true):TreeOk ([a,b]++z31.drop 2)/\memB ([a,b]++z31.drop 2) 0=true:=by
 have h:=PutOk.first (t:=z31) rfl 0 dd a b;have e:(z31.set (0*2) a).set (0*2+1) b=[a,b]++z31.drop 2:=rfl;rw[e]at h;exact⟨h.tree tree_zero ⟨(pub_key ha).1,(pub_key hb).1,by simp[(pub_key ha).2,(pub_key hb).2]⟩,h.mem_self (pub_key ha).2⟩
theorem may_one{a b:Int}(ha:pubB a=true)(hb:pubB b=true):MayV 0 1 ([a,b]++z31.drop 2) [true,false,false,false,false,false,false,false]:=
 ⟨by decide,by decide,(tree_one ha hb).1,by decide,by decide,fun j hj h=>by
  by_cases e:j=0
  · subst e;exact(tree_one ha hb).2
  · rw[show[true,false,false,false,false,false,false,false]=[false,false,false,false,false,false,false,false].set 0 true from rfl,getDb_set_ne (fun h=>e h.symm)]at h
    rw[show[false,false,false,false,false,false,false,false]=List.replicate 8 false from rfl,List.getD_eq_getElem?_getD,List.getElem?_replicate]at h
    split at h<;>cases h⟩
end Go.Proofs.YtppjnahcnofokaaGreat.T
namespace Go.Proofs.YtppjnahcnofokaaGreat.T
open Go.RowKit Go.Proofs.YtppjnahcnofokaaGreatW.PrintLast
open Go.Proofs.Tryz
variable{k:IntKind}{a:Act}{b i n B base m fuel D B':Nat}{l ch p t0 q:List Int}{w w' w1 w2:World}{t:TypeId}{P:Int->Int->Prop}{cs:Array Value}{A A':Option Addr}{o oi:Oper}{e s f st fl:Int}{xs:List (List Int×Int×Int×Int)}{ops:Array Oper}{rest l0:List Oper}{v:Value}{r:Option Nat}{rs rs2:List (Option Addr×Nat×Nat×List Int)}{E:Prop}{vs l3:List Value}{ad ai go:List Bool}{N:Act->Prop}{place:Nat->Option (Nat×Nat)}{bad:Bool}{es es':List (Int×List Int)}{T:List TypeId}{ps:List (List Int)}
def ClRF(b bc:Nat)(x:PyP)(y:CmP)(w:World)(r:Ending)(w':World):Prop:=
 IsH r/\(∃ow nd:List Int,ow.length=32/\nd.length=96/\Cel w' b 82 (pyC (((x.sow ow).snd nd).shs [true,true,true])))/\(∃s p0 p1 p2:Int,Cel w' bc 130 (cmC (y.keys s p0 p1 p2))/\pubB s=true/\pubB p0=true/\pubB p1=true/\pubB p2=true)/\Gr2 b bc w w'
def Kys(i:Nat)(p0 p1 p2:Int):Prop:=(0<i->pubB p0=true)/\(1<i->pubB p1=true)/\(2<i->pubB p2=true)
theorem climbs_f(b bc:Nat)(x:PyP)(y:CmP)(p:List Int)(w:World)(hc:Cel w b 82 (pyC x))(hok:PyOk x)(hy:Cel w bc 130 (cmC y))(hne:b≠bc)(hp:p.length=32):Calls prog 101 #[.pointer (some ⟨b,0,none⟩),.agg (ints .u8 p).toArray,.pointer (some ⟨bc,0,none⟩)] w (ClRF b bc x y w):=by
 obtain⟨w1,hW⟩:=ex_ ((w.alloc (.cells (ints .u8 p).toArray 43)).alloc (.cells (ints .u8 zl).toArray 43));have hb1:Bl w w1:=by rw[hW];exact bal b0_
 have HP1:Hid (Blk w1 w.heap.size .u8 43 p):=by rw[hW];exact(blk_new _ .u8 43 p _ rfl).below b0_ s_
 have HZ1:Hid (Row w1 (w.heap.size+1) .u8 43 32):=by rw[hW];exact Row.new zl _ rfl s_
 have hs1:w.heap.size+2<=w1.heap.size:=by rw[hW];simp
 have hbw:b<w.heap.size:=hc.lt;have hbcw:bc<w.heap.size:=hy.lt;have HC1:=hd_ (hc.below hb1 hc.lt);have HY1:=hd_ (hy.below hb1 hy.lt);have HG1:Hid (Gr2 b bc w w1):=(Gr2.refl b bc w).bel hb1;have HOk:=hd_ hok;have HPp:=hd_ hp;have HW:=hd_ hW;clear hW hb1 hc hok hy hp;go_enter func101,ntmps101
 go_wp2_with ((change wpList _ _ _ _ _ ((w.alloc (.cells (ints .u8 p).toArray 43)).alloc (.cells (ints .u8 zl).toArray 43)));rw[<-HW.out];refine wpList_load_mid rfl 43 (.tmp 4) rr w.heap.size 0 rr (ints .u8 p) _ HP1.out.range underlying43 rfl (hi43 HPp.out).out ?_);refine(derive_any p _ none 0 0 [] _ HPp.out dd (rdr_nil _) o_).mono ?_;rintro _ w2 ⟨⟨lo,hlo,rfl⟩,hb2⟩;have HC2:=hd_ (HC1.out.below hb2 HC1.out.lt);have HY2:=hd_ (HY1.out.below hb2 HY1.out.lt);have HZ2:=hd_ (HZ1.out.below hb2 HZ1.out.lt);have HG2:=hd_ (HG1.out.bel hb2);have HLo:=hd_ hlo;have hs2:w.heap.size+2<=w2.heap.size:=Nat.le_trans hs1 hb2.size;clear hb2 hlo
 go_wp2_with (first
  | (refine py_st_sow (x:=x) HLo.out rfl (.tmp 15) (.tmp 13) rr b rr rr HC2.out HOk.out ?_;intro w3 hC3 hg3;have HC3:=hd_ hC3;have HY3:=hd_ (HY2.out.grown hg3 s1_);have HZ3:=hd_ (HZ2.out.grown hg3 s1_);have HG3:=hd_ (HG2.out.gr hg3 (.inl rfl));have HOk3:Hid (PyOk (x.sow lo)):=HOk.out.sow HLo.out;have hs3:w.heap.size+2<=w3.heap.size:=Nat.le_trans hs2 hg3.size;clear hC3 hg3)
  | (refine wpList_load_mid rfl 43 (.tmp 19) rr b 75 rr (ints .u8 lo) _ (py_rg2 HOk3.out HC3.out) underlying43 rfl (hi43 HLo.out).out ?_))
 refine(up_any lo _ HLo.out).mono ?_;rintro _ w4 ⟨⟨lu,lh,hlu,hlh,rfl⟩,hb4⟩;have HC4:=hd_ (HC3.out.below hb4 HC3.out.lt);have HY4:=hd_ (HY3.out.below hb4 HY3.out.lt);have HZ4:=hd_ (HZ3.out.below hb4 HZ3.out.lt);have HG4:=hd_ (HG3.out.bel hb4);have HLu:=hd_ hlu;have HLh:=hd_ hlh;have hs4:w.heap.size+2<=w4.heap.size:=Nat.le_trans hs3 hb4.size;obtain⟨W5,hW5⟩:=ex_ ((w4.alloc (.cells (ints .u8 z96).toArray 80)).alloc (.cells (ints .u8 zl).toArray 43));have hb5:Bl w4 W5:=by rw[hW5];exact bal b0_
 have HA5:Hid (Row W5 w4.heap.size .u8 80 96):=by rw[hW5];exact(Row.new z96 _ rfl rfl).alloc _
 have HD5:Hid (Row W5 (w4.heap.size+1) .u8 43 32):=by rw[hW5];exact Row.new zl _ rfl s_
 have HC5:=hd_ (HC4.out.below hb5 HC4.out.lt);have HY5:=hd_ (HY4.out.below hb5 HY4.out.lt);have HZ5:=hd_ (HZ4.out.below hb5 HZ4.out.lt);have HG5:=hd_ (HG4.out.bel hb5);have HW5:=hd_ hW5;clear hb4 hlu hlh hb5 hW5
 go_wp2_with (first
  | ((change wpList _ _ _ _ _ ((w4.alloc (.cells (ints .u8 z96).toArray 80)).alloc (.cells (ints .u8 zl).toArray 43)));rw[<-HW5.out];refine store_blk rfl 80 (.tmp 7) (.tmp 22) rr w4.heap.size .u8 lu rr rr HA5.out HLu.out (by show _=_;rw[HLu.out];exact info80) ?_;intro w6 hB6 hg6;have HA6:Hid (Blk w6 w4.heap.size .u8 80 lu):=hB6;have HD6:=hd_ (HD5.out.grown hg6 s_);have HC6:=hd_ (HC5.out.grown hg6 s1_);have HY6:=hd_ (HY5.out.grown hg6 s1_);have HZ6:=hd_ (HZ5.out.grown hg6 s1_);have HG6:=hd_ (HG5.out.gr hg6 (.inr (.inr o_)));clear hB6 hg6)
  | (refine store_blk rfl 43 (.tmp 8) (.tmp 23) rr (w4.heap.size+1) .u8 lh rr rr HD6.out HLh.out (by show _=_;rw[HLh.out];exact info43) ?_;intro w7 hB7 hg7;have HD7:Hid (Blk w7 (w4.heap.size+1) .u8 43 lh):=hB7;have HA7:=hd_ (HA6.out.grown hg7 s_);have HC7:=hd_ (HC6.out.grown hg7 s1_);have HY7:=hd_ (HY6.out.grown hg7 s1_);have HZ7:=hd_ (HZ6.out.grown hg7 s1_);have HG7:=hd_ (HG6.out.gr hg7 (.inr (.inr o_)));clear hB7 hg7)
  | (refine wpList_load_mid rfl 80 (.tmp 7) rr w4.heap.size 0 rr (ints .u8 lu) _ HA7.out.range underlying80 rfl (by rw[ints_len,HLu.out];exact info80) ?_)
  | (refine py_st_snd (x:=x.sow lo) HLu.out rfl (.tmp 27) (.tmp 25) rr b rr rr HC7.out HOk3.out ?_;intro w8 hC8 hg8;have HC8:=hd_ hC8;have HY8:=hd_ (HY7.out.grown hg8 s1_);have HZ8:=hd_ (HZ7.out.grown hg8 s1_);have HA8:=hd_ (HA7.out.grown hg8 s1_);have HD8:=hd_ (HD7.out.grown hg8 s1_);have HG8:=hd_ (HG7.out.gr hg8 (.inl rfl));have HOk8:Hid (PyOk ((x.sow lo).snd lu)):=HOk3.out.snd HLu.out;clear hC8 hg8)
  | (refine py_st_shs (x:=(x.sow lo).snd lu) (l:=[true,true,true]) rfl rfl (.tmp 31) (.tmp 29) rr b rr rr HC8.out HOk8.out ?_;intro w9 hC9 hg9;have HC9:=hd_ hC9;have HY9:=hd_ (HY8.out.grown hg9 s1_);have HZ9:=hd_ (HZ8.out.grown hg9 s1_);have HA9:=hd_ (HA8.out.grown hg9 s1_);have HD9:=hd_ (HD8.out.grown hg9 s1_);have HG9:=hd_ (HG8.out.gr hg9 (.inl rfl));have HOk9:Hid (PyOk (((x.sow lo).snd lu).shs [true,true,true])):=HOk8.out.shs rfl;clear hC9 hg9)
  | (refine wpList_load_mid rfl 43 (.tmp 35) rr b 75 rr (ints .u8 lo) _ (py_rg2 HOk9.out HC9.out) underlying43 rfl (hi43 HLo.out).out ?_))
 refine(node_any lo _ HLo.out).mono ?_;rintro _ wa ⟨⟨g,s,hg,hk,rfl⟩,hba⟩;have HCa:=hd_ (HC9.out.below hba HC9.out.lt);have HYa:=hd_ (HY9.out.below hba HY9.out.lt);have HZa:=hd_ (HZ9.out.below hba HZ9.out.lt);have HAa:=hd_ (HA9.out.below hba HA9.out.lt);have HDa:=hd_ (HD9.out.below hba HD9.out.lt);have HGa:=hd_ (HG9.out.bel hba);have hga:w4.heap.size+1<g:=Nat.lt_of_lt_of_le HD9.out.lt hg;clear hba hg;go_wp2_with fail;refine(public_any g s _ hk).mono ?_;rintro _ wb ⟨rfl,-,hcb⟩;have HCb:=hd_ (HCa.out.grown hcb.gr s1_);have HYb:=hd_ (HYa.out.grown hcb.gr s1_);have HZb:=hd_ (HZa.out.grown hcb.gr s1_);have HAb:=hd_ (HAa.out.grown hcb.gr s1_);have HDb:=hd_ (HDa.out.grown hcb.gr s1_);have HGb:=hd_ (HGa.out.gr hcb.gr (.inr (.inr o_)));have k4:wb.cell? ⟨bc,4,none⟩=some (.int .i64 y.s):=(HYb.out.cell 4).trans rfl;have f4:=HYb.out.free 4;have hpub:=pub_gen s hk.1;obtain⟨P4,hP4⟩:=ex_ (powF 4 s);rw[<-hP4]at hpub;have HPUB:=hd_ hpub;rw[<-hP4];obtain⟨W6,hW6⟩:=ex_ (wb.setCell ⟨bc,4,none⟩ (.int .i64 P4));have hg6:wb.grownBy W6 (some bc):=by rw[hW6];exact grownBy_set1 _ _ _ _
 have HY6:Hid (Cel W6 bc 130 (cmC (y.keys P4 y.p0 y.p1 y.p2))):=by rw[hW6];exact HYb.out.set 4 _
 have HC6:=hd_ (HCb.out.grown hg6 s1_);have HZ6:=hd_ (HZb.out.grown hg6 s1_);have HA6:=hd_ (HAb.out.grown hg6 s1_);have HD6:=hd_ (HDb.out.grown hg6 s1_);have HG6:=hd_ (HGb.out.gr hg6 (.inr (.inl rfl)));have HW6:=hd_ hW6;clear hcb hk hP4 hW6 hg6 hpub
 go_wp2_with (first
  | (rw[<-HW6.out])
  | (refine wpList_load_mid rfl 80 (.tmp 7) rr w4.heap.size 0 rr (ints .u8 lu) _ HA6.out.range underlying80 rfl (by rw[ints_len,HLu.out];exact info80) ?_))
 clear k4 f4;go_loopw [42] (fun v wr=>∃(i:Nat) (p0 p1 p2:Int),v=.int .i64 i/\i<=3/\Hid (Kys i p0 p1 p2)/\Hid (Cel wr bc 130 (cmC (y.keys P4 p0 p1 p2)))/\Hid (Cel wr b 82 (pyC (((x.sow lo).snd lu).shs [true,true,true])))/\Hid (Row wr (w.heap.size+1) .u8 43 32)/\Hid (Blk wr (w4.heap.size+1) .u8 43 lh)/\Hid (Gr2 b bc w wr)) (fun v _=>3-(intOf v).toNat)
 case atStart=>exact⟨0,_,_,_,rfl,by omega,hd_ ⟨fun h=>by omega,fun h=>by omega,fun h=>by omega⟩,HY6,HC6,HZ6,HD6,HG6⟩
 case round=>
  clear HY6 HC6 HZ6 HA6 HD6 HG6 HW6
  obtain⟨wc,rfl⟩:=ex_ (wr)
  obtain⟨i,p0,p1,p2,rfl,hi,HKY,HY,HC,HZ,HD,HG⟩:=hrel
  have hszc:w4.heap.size+1<wc.heap.size:=HD.out.lt
  by_cases hlt:i<3
  · have HX:=hd_ (idx80 lu HLu.out i hlt wc);obtain⟨li,hli⟩:=ex_ ((lu.drop (i*32)).take 32);(have HLi:Hid (li.length=32):=by show _=_;rw[hli,List.length_take,List.length_drop,HLu.out];omega);rw[<-hli]at HX;have HN:Hid (Row (wc.alloc (.cells (ints .u8 zl).toArray 43)) wc.heap.size .u8 43 32):=Row.new zl _ rfl rfl;have hbal:Bl wc (wc.alloc (.cells (ints .u8 zl).toArray 43)):=b0_;(have hi3:(i:Int)<3:=by omega);clear hli
    go_wp2_with (first
     | (refine wpList_index rfl 80 (.tmp 41) (.tmp 42) rfl _ _ _ rr rr HX.out ?_)
     | (refine store_blk rfl 43 (.tmp 10) (.tmp 45) rr wc.heap.size .u8 li rr rr HN.out HLi.out (by show _=_;rw[HLi.out];exact info43) ?_;intro wd hBd hgd;have hbd:Bl wc wd:=hbal.grown hgd s_ (fun k hk=>by cases hk;omega);have HN2:Hid (Blk wd wc.heap.size .u8 43 li):=hBd;have HY2:=hd_ (HY.out.below hbd HY.out.lt);have HC2':=hd_ (HC.out.below hbd HC.out.lt);have HZ2':=hd_ (HZ.out.below hbd HZ.out.lt);have HD2:=hd_ (HD.out.below hbd HD.out.lt);have HG2':=hd_ (HG.out.bel hbd);clear hBd hgd hbd))
    refine pr_ 0 9 (bt 9 0) fun w1d hw1d=>?_;refine mG ?_;(have hH:(fun w'=>Hid (Blk w' wc.heap.size .u8 43 li)/\Hid (Cel w' bc 130 (cmC (y.keys P4 p0 p1 p2)))/\Hid (Cel w' b 82 (pyC (((x.sow lo).snd lu).shs [true,true,true])))/\Hid (Row w' (w.heap.size+1) .u8 43 32)/\Hid (Blk w' (w4.heap.size+1) .u8 43 lh)/\Hid (Gr2 b bc w w')) w1d:=by rw[<-hw1d];exact⟨HN2.out.drew,HY2.out.drew,HC2'.out.drew,HZ2'.out.drew,HD2.out.drew,HG2'.out.bel (Below.refl _ _).drew⟩);clear hw1d;refine wpAny_of_last (S:=fun w'=>Hid (Blk w' wc.heap.size .u8 43 li)/\Hid (Cel w' bc 130 (cmC (y.keys P4 p0 p1 p2)))/\Hid (Cel w' b 82 (pyC (((x.sow lo).snd lu).shs [true,true,true])))/\Hid (Row w' (w.heap.size+1) .u8 43 32)/\Hid (Blk w' (w4.heap.size+1) .u8 43 lh)/\Hid (Gr2 b bc w w')) (ds:=[8]) _ _ _ _ ?_;refine ts_ 0 3 6 (bt 9 7) hH ?_;refine mD ?_;(repeat (first|(refine tk_ 43 (.tmp 10) wc.heap.size 0 (ints .u8 li) (fun _ h=>h.1.out.range) underlying43 rfl (hi43 HLi.out).out ?_)|(refine uA ?_)|(refine mB6 ?_)));refine takes_nil ?_;refine ts_ 5 2 4 (bt 9 103) hH ?_;refine mD ?_;(repeat (first|(refine tk_ 43 (.tmp 10) wc.heap.size 0 (ints .u8 li) (fun _ h=>h.1.out.range) underlying43 rfl (hi43 HLi.out).out ?_)|(refine uA ?_)|(refine mB6 ?_)));refine takes_nil ?_;refine one_ (i:=3) (N:=some 49) (bt 9 111) rfl rfl kk dd (fun K hK=>?_);refine goes_ func51 kk rfl #[.agg (ints .u8 li).toArray] rr rfl rfl mL ?_;refine(node_any li _ HLi.out).mono ?_;rintro _ we ⟨⟨g2,s2,hg2,hk2,rfl⟩,hbe⟩;refine⟨_,rfl,?_⟩;have hg3:wc.heap.size<g2:=Nat.lt_of_lt_of_le hH.1.out.lt hg2;have HK2:=hd_ hk2;refine hK.out _ _ ⟨hH.1.out.below hbe hH.1.out.lt,hH.2.1.out.below hbe hH.2.1.out.lt,hH.2.2.1.out.below hbe hH.2.2.1.out.lt,hH.2.2.2.1.out.below hbe hH.2.2.2.1.out.lt,hH.2.2.2.2.1.out.below hbe hH.2.2.2.2.1.out.lt,hH.2.2.2.2.2.out.bel hbe⟩ (fun hH=>?_);clear hK K hk2 hbe hg2;refine mN ?_;refine one_ (i:=4) (N:=some 50) (bt 9 127) rfl rfl kk dd (fun K hK=>?_);refine goes_ func50 kk rfl #[.pointer (some ⟨g2,0,none⟩)] rr rfl rfl mL ?_;refine(public_any g2 s2 _ HK2.out).mono ?_;rintro _ wf ⟨rfl,-,hcx⟩;refine⟨_,rfl,?_⟩;refine hK.out _ _ ⟨hH.1.out.grown hcx.gr s1_,hH.2.1.out.grown hcx.gr s1_,hH.2.2.1.out.grown hcx.gr s1_,hH.2.2.2.1.out.grown hcx.gr s1_,hH.2.2.2.2.1.out.grown hcx.gr s1_,hH.2.2.2.2.2.out.gr hcx.gr (.inr (.inr o_))⟩ (fun hH=>?_);clear hK K hcx;refine mN ?_;refine ts_ 7 1 1 (bt 9 255) hH ?_;refine mD ?_;(repeat (first|(refine tk_ 43 (.tmp 10) wc.heap.size 0 (ints .u8 li) (fun _ h=>h.1.out.range) underlying43 rfl (hi43 HLi.out).out ?_)|(refine uA ?_)|(refine mB6 ?_)));refine takes_nil ?_;refine tl_ 8 ?_;refine mF ?_;obtain⟨-,HYf,HCf,HZf,HDf,HGf⟩:=hH;(have k5:∃v,wf.cell? ⟨bc,5+i,none⟩=some v:=by(rcases(show i=0\/i=1\/i=2 by omega) with rfl|rfl|rfl);(· exact⟨_,(HYf.out.cell 5).trans rfl⟩);(· exact⟨_,(HYf.out.cell 6).trans rfl⟩);exact⟨_,(HYf.out.cell 7).trans rfl⟩);obtain⟨v5,k5⟩:=k5;have f5:=HYf.out.free (5+i);go_wp2_with fail;go_roundw;case rel=>
     have hset:=HYf.out.set (5+i) (.int .i64 (powF 4 s2));have hgz:=grownBy_set1 wf bc (5+i) (.int .i64 (powF 4 s2));have hpub2:=pub_gen s2 HK2.out.1;(have hC2:∃q0 q1 q2:Int,Kys (i+1) q0 q1 q2/\Cel (wf.setCell ⟨bc,5+i,none⟩ (.int .i64 (powF 4 s2))) bc 130 (cmC (y.keys P4 q0 q1 q2)):=by have hky:=HKY.out;(rcases(show i=0\/i=1\/i=2 by omega) with rfl|rfl|rfl);(· exact⟨powF 4 s2,p1,p2,⟨fun _=>hpub2,fun h=>by omega,fun h=>by omega⟩,hset⟩);(· exact⟨p0,powF 4 s2,p2,⟨fun _=>hky.1 o_,fun _=>hpub2,fun h=>by omega⟩,hset⟩);exact⟨p0,p1,powF 4 s2,⟨fun _=>hky.1 o_,fun _=>hky.2.1 o_,fun _=>hpub2⟩,hset⟩);obtain⟨q0,q1,q2,hky2,hC2⟩:=hC2;exact⟨i+1,q0,q1,q2,by go_num,by omega,hky2,hC2,HCf.out.grown hgz s1_,HZf.out.grown hgz s1_,HDf.out.grown hgz s1_,HGf.out.gr hgz (.inr (.inl rfl))⟩
    case measure=>simp[intOf];omega
  · (obtain rfl:i=3:=by omega)
    go_wp2_with (first
     | (refine wpList_load_mid rfl 43 (.tmp 8) rr (w4.heap.size+1) 0 rr (ints .u8 lh) _ HD.out.range underlying43 rfl (hi43 HLh.out).out ?_)
     | (refine store_blk rfl 43 (.tmp 6) (.tmp 55) rr (w.heap.size+1) .u8 lh rr rr HZ.out HLh.out (by show _=_;rw[HLh.out];exact info43) ?_;intro wz hBz hgz))
    have hload:=hBz.loads underlying43 rfl (by show _=_;rw[HLh.out];exact info43);refine bodyPost_ret (v:=.agg (ints .u8 lh).toArray) (by simp[results,results101,asAddr,Act.put,hload]) rfl ⟨⟨lh,HLh.out,rfl⟩,⟨lo,lu,HLo.out,HLu.out,HC.out.grown hgz s1_⟩,⟨P4,p0,p1,p2,HY.out.grown hgz s1_,HPUB.out,HKY.out.1 o_,HKY.out.2.1 o_,HKY.out.2.2 o_⟩,HG.out.gr hgz (.inr (.inr o_))⟩
end Go.Proofs.YtppjnahcnofokaaGreat.T
namespace Go.Proofs.YtppjnahcnofokaaGreat.T
open Go.RowKit Go.Proofs.YtppjnahcnofokaaGreatW.PrintLast
open Go.Proofs.Tryz
variable{k:IntKind}{a:Act}{b i n B base m fuel D B':Nat}{l ch p t0 q:List Int}{w w' w1 w2:World}{t:TypeId}{P:Int->Int->Prop}{cs:Array Value}{A A':Option Addr}{o oi:Oper}{e s f st fl:Int}{xs:List (List Int×Int×Int×Int)}{ops:Array Oper}{rest l0:List Oper}{v:Value}{r:Option Nat}{rs rs2:List (Option Addr×Nat×Nat×List Int)}{E:Prop}{vs l3:List Value}{ad ai go:List Bool}{N:Act->Prop}{place:Nat->Option (Nat×Nat)}{bad:Bool}{es es':List (Int×List Int)}{T:List TypeId}{ps:List (List Int)}
theorem may_step{k k2 p0 p1 p2:Int}{t t2 t3:List Int}{ad2:List Bool}(h:ApK e k f t ad k2 t2 ad2 go)(hf:0<=f/\f<8)(he:¬1099511627776<=e)(hk:KeyedOk t2 f.toNat s p0 p1 p2 t3)(hp:pubB s=true/\pubB p0=true/\pubB p1=true/\pubB p2=true): MayV (wrap64 (e+1)) k2 t3 ad2/\∀i,i<8->memB t2 i=true->memB t3 i=true:=by
 have hm:f.toNat<8:=by omega
 have h0:=h.old.e0;have hw:wrap64 (e+1)=e+1:=by unfold wrap64;omega
 refine⟨⟨by omega,by omega,hk.tree hm h.new.tree (h.frm _ hm o_) hp,h.new.k1,h.new.kn,fun j hj hd=>hk.mem hp.1 j hj (h.new.mem j hj hd)⟩,fun i hi hd=>hk.mem hp.1 i hi hd⟩
end Go.Proofs.YtppjnahcnofokaaGreat.T
namespace Go.Proofs.YtppjnahcnofokaaGreat.T
open Go.RowKit Go.Proofs.YtppjnahcnofokaaGreatW.PrintLast
open Go.Proofs.Tryz
variable{k:IntKind}{a:Act}{b i n B base m fuel D B':Nat}{l ch p t0 q:List Int}{w w' w1 w2:World}{t:TypeId}{P:Int->Int->Prop}{cs:Array Value}{A A':Option Addr}{o oi:Oper}{e s f st fl:Int}{xs:List (List Int×Int×Int×Int)}{ops:Array Oper}{rest l0:List Oper}{v:Value}{r:Option Nat}{rs rs2:List (Option Addr×Nat×Nat×List Int)}{E:Prop}{vs l3:List Value}{ad ai go:List Bool}{N:Act->Prop}{place:Nat->Option (Nat×Nat)}{bad:Bool}{es es':List (Int×List Int)}{T:List TypeId}{ps:List (List Int)}
def keyT(t:List Int)(m:Nat):Int:=if m % 2=0 then t.getD (m+1) 0 else t.getD (16+m) 0
theorem key_f(t:List Int)(m:Nat)(w:World)(ht:t.length=31)(hm:m<15):Calls prog 162 #[.agg (ints .i64 t).toArray,.int .i64 m] w fun r w'=>r=.returned (.int .i64 (keyT t m))/\Bl w w':=by
 have HB:=hd_ (blk40 w t);have Hb:Hid (Bl w (w.alloc (.cells (ints .i64 t).toArray 40))):=b0_;obtain⟨w1,hW⟩:=ex_ (w.alloc (.cells (ints .i64 t).toArray 40));rw[<-hW]at HB Hb;have HW:=hd_ hW;clear hW;have hcell:∀i,i<31->∃x,w1.cell? ⟨w.heap.size,i,none⟩=some (.int .i64 x)/\x=t.getD i 0:=fun i hi=>⟨_,HB.out.cell (List.getElem?_eq_getElem o_),by rw[List.getD_eq_getElem?_getD,List.getElem?_eq_getElem o_];rfl⟩;have e:m=0\/m=1\/m=2\/m=3\/m=4\/m=5\/m=6\/m=7\/m=8\/m=9\/m=10\/m=11\/m=12\/m=13\/m=14:=by omega
 rcases e with rfl|rfl|rfl|rfl|rfl|rfl|rfl|rfl|rfl|rfl|rfl|rfl|rfl|rfl|rfl
 · obtain⟨x,hx,hx0⟩:=hcell 1 o_;have HX0:=hd_ hx0;clear hcell hx0;(go_enter func162,ntmps162);go_wp2_with fail;rw[<-HW.out];refine(isNode_any _ _).mono ?_;rintro _ w2 ⟨rfl,rfl⟩;rw[show decide ((0:Int)<=0/\(0:Int)<15)=true from by decide];go_wp2_with fail;go_ret;exact⟨by rw[HX0.out];rfl,Hb.out⟩
 · obtain⟨x,hx,hx0⟩:=hcell 17 o_;have HX0:=hd_ hx0;clear hcell hx0;(go_enter func162,ntmps162);go_wp2_with fail;rw[<-HW.out];refine(isNode_any _ _).mono ?_;rintro _ w2 ⟨rfl,rfl⟩;rw[show decide ((0:Int)<=1/\(1:Int)<15)=true from by decide];go_wp2_with fail;go_ret;exact⟨by rw[HX0.out];rfl,Hb.out⟩
 · obtain⟨x,hx,hx0⟩:=hcell 3 o_;have HX0:=hd_ hx0;clear hcell hx0;(go_enter func162,ntmps162);go_wp2_with fail;rw[<-HW.out];refine(isNode_any _ _).mono ?_;rintro _ w2 ⟨rfl,rfl⟩;rw[show decide ((0:Int)<=2/\(2:Int)<15)=true from by decide];go_wp2_with fail;go_ret;exact⟨by rw[HX0.out];rfl,Hb.out⟩
 · obtain⟨x,hx,hx0⟩:=hcell 19 o_;have HX0:=hd_ hx0;clear hcell hx0;(go_enter func162,ntmps162);go_wp2_with fail;rw[<-HW.out];refine(isNode_any _ _).mono ?_;rintro _ w2 ⟨rfl,rfl⟩;rw[show decide ((0:Int)<=3/\(3:Int)<15)=true from by decide];go_wp2_with fail;go_ret;exact⟨by rw[HX0.out];rfl,Hb.out⟩
 · obtain⟨x,hx,hx0⟩:=hcell 5 o_;have HX0:=hd_ hx0;clear hcell hx0;(go_enter func162,ntmps162);go_wp2_with fail;rw[<-HW.out];refine(isNode_any _ _).mono ?_;rintro _ w2 ⟨rfl,rfl⟩;rw[show decide ((0:Int)<=4/\(4:Int)<15)=true from by decide];go_wp2_with fail;go_ret;exact⟨by rw[HX0.out];rfl,Hb.out⟩
 · obtain⟨x,hx,hx0⟩:=hcell 21 o_;have HX0:=hd_ hx0;clear hcell hx0;(go_enter func162,ntmps162);go_wp2_with fail;rw[<-HW.out];refine(isNode_any _ _).mono ?_;rintro _ w2 ⟨rfl,rfl⟩;rw[show decide ((0:Int)<=5/\(5:Int)<15)=true from by decide];go_wp2_with fail;go_ret;exact⟨by rw[HX0.out];rfl,Hb.out⟩
 · obtain⟨x,hx,hx0⟩:=hcell 7 o_;have HX0:=hd_ hx0;clear hcell hx0;(go_enter func162,ntmps162);go_wp2_with fail;rw[<-HW.out];refine(isNode_any _ _).mono ?_;rintro _ w2 ⟨rfl,rfl⟩;rw[show decide ((0:Int)<=6/\(6:Int)<15)=true from by decide];go_wp2_with fail;go_ret;exact⟨by rw[HX0.out];rfl,Hb.out⟩
 · obtain⟨x,hx,hx0⟩:=hcell 23 o_;have HX0:=hd_ hx0;clear hcell hx0;(go_enter func162,ntmps162);go_wp2_with fail;rw[<-HW.out];refine(isNode_any _ _).mono ?_;rintro _ w2 ⟨rfl,rfl⟩;rw[show decide ((0:Int)<=7/\(7:Int)<15)=true from by decide];go_wp2_with fail;go_ret;exact⟨by rw[HX0.out];rfl,Hb.out⟩
 · obtain⟨x,hx,hx0⟩:=hcell 9 o_;have HX0:=hd_ hx0;clear hcell hx0;(go_enter func162,ntmps162);go_wp2_with fail;rw[<-HW.out];refine(isNode_any _ _).mono ?_;rintro _ w2 ⟨rfl,rfl⟩;rw[show decide ((0:Int)<=8/\(8:Int)<15)=true from by decide];go_wp2_with fail;go_ret;exact⟨by rw[HX0.out];rfl,Hb.out⟩
 · obtain⟨x,hx,hx0⟩:=hcell 25 o_;have HX0:=hd_ hx0;clear hcell hx0;(go_enter func162,ntmps162);go_wp2_with fail;rw[<-HW.out];refine(isNode_any _ _).mono ?_;rintro _ w2 ⟨rfl,rfl⟩;rw[show decide ((0:Int)<=9/\(9:Int)<15)=true from by decide];go_wp2_with fail;go_ret;exact⟨by rw[HX0.out];rfl,Hb.out⟩
 · obtain⟨x,hx,hx0⟩:=hcell 11 o_;have HX0:=hd_ hx0;clear hcell hx0;(go_enter func162,ntmps162);go_wp2_with fail;rw[<-HW.out];refine(isNode_any _ _).mono ?_;rintro _ w2 ⟨rfl,rfl⟩;rw[show decide ((0:Int)<=10/\(10:Int)<15)=true from by decide];go_wp2_with fail;go_ret;exact⟨by rw[HX0.out];rfl,Hb.out⟩
 · obtain⟨x,hx,hx0⟩:=hcell 27 o_;have HX0:=hd_ hx0;clear hcell hx0;(go_enter func162,ntmps162);go_wp2_with fail;rw[<-HW.out];refine(isNode_any _ _).mono ?_;rintro _ w2 ⟨rfl,rfl⟩;rw[show decide ((0:Int)<=11/\(11:Int)<15)=true from by decide];go_wp2_with fail;go_ret;exact⟨by rw[HX0.out];rfl,Hb.out⟩
 · obtain⟨x,hx,hx0⟩:=hcell 13 o_;have HX0:=hd_ hx0;clear hcell hx0;(go_enter func162,ntmps162);go_wp2_with fail;rw[<-HW.out];refine(isNode_any _ _).mono ?_;rintro _ w2 ⟨rfl,rfl⟩;rw[show decide ((0:Int)<=12/\(12:Int)<15)=true from by decide];go_wp2_with fail;go_ret;exact⟨by rw[HX0.out];rfl,Hb.out⟩
 · obtain⟨x,hx,hx0⟩:=hcell 29 o_;have HX0:=hd_ hx0;clear hcell hx0;(go_enter func162,ntmps162);go_wp2_with fail;rw[<-HW.out];refine(isNode_any _ _).mono ?_;rintro _ w2 ⟨rfl,rfl⟩;rw[show decide ((0:Int)<=13/\(13:Int)<15)=true from by decide];go_wp2_with fail;go_ret;exact⟨by rw[HX0.out];rfl,Hb.out⟩
 obtain⟨x,hx,hx0⟩:=hcell 15 o_;have HX0:=hd_ hx0;clear hcell hx0;go_enter func162,ntmps162
 go_wp2_with fail;rw[<-HW.out];refine(isNode_any _ _).mono ?_;rintro _ w2 ⟨rfl,rfl⟩;rw[show decide ((0:Int)<=14/\(14:Int)<15)=true from by decide];go_wp2_with fail;go_ret;exact⟨by rw[HX0.out];rfl,Hb.out⟩
abbrev Zm(m:Nat):Prop:=decide (m=4\/m=5\/m=6\/8<=m)=true
theorem zm_kids:∀m,m<15->Zm m->hv m≠0->Zm (m-hv m)/\Zm (m+hv m):=by decide +kernel
def ResT(t:List Int)(k m:Nat)(w:World)(r:Ending)(w':World):Prop:=
 (∃A n c l,r=.returned (.slice A n c)/\w'.ownsRow w.heap.size 3 1 (.slice A n c) n (ints .i64 l)/\l.length=n/\(∀x ∈ l,0<=x/\x<15)/\n<=2 ^ k/\(Zm m->n=0)/\(keyT t m≠0->n=1/\l=[(m:Int)]))/\Bl w w'
theorem res_step_t(t:List Int)(ht:t.length=31)(hz:∀m,m<15->Zm m->keyT t m=0)(k:Nat)(hk15:k<=3)(ih:∀m w,m<15->lvl m<k->Calls prog 184 #[.agg (ints .i64 t).toArray,.int .i64 m] w (ResT t (k-1) m w))(m:Nat)(w:World)(hm:m<15)(hk:lvl m<=k): Calls prog 184 #[.agg (ints .i64 t).toArray,.int .i64 m] w (ResT t k m w):=by
 obtain⟨w1,hW⟩:=ex_ (w.alloc (.cells (ints .i64 t).toArray 40));have HB:Hid (Blk w1 w.heap.size .i64 40 t):=by rw[hW];exact blk40 w t
 have Hb:Hid (Bl w w1):=by rw[hW];exact b0_
 have HW:=hd_ hW;have HI:Hid ((prog.info? 40).map (·.size)=some (ints .i64 t).length):=by show _=_;rw[ints_len,ht];exact info40
 have HKids:=hd_ (kids m hm);have HK0:=hd_ (fun w'=>key_f t m w' ht hm);have HZZ:=hd_ hz;have HZK:=hd_ (zm_kids m hm);clear hz;have HQ:=hd_ (show decide ((0:Int)<=m/\(m:Int)<15)=true by simp;omega);clear hW;go_enter func184,ntmps184
 go_wp2_with fail;rw[<-HW.out];refine(isNode_any _ _).mono ?_;rintro _ w2 ⟨rfl,rfl⟩;rw[HQ.out];go_wp2_with (refine wpList_load_mid rfl 40 (.tmp 2) rr w.heap.size 0 rr (ints .i64 t) _ HB.out.range underlying40 rfl HI.out ?_);refine(HK0.out _).mono ?_;rintro _ w2 ⟨rfl,hb2⟩;obtain⟨x,hxx⟩:∃x,keyT t m=x:=⟨_,rfl⟩;rw[hxx];have HXX:=hd_ hxx;clear hxx;have HB2:=hd_ (HB.out.below hb2 HB.out.lt);have Hb2:Hid (Bl w w2):=Hb.out.trans (hb2.mono Hb.out.size);have hl2:w.heap.size<w2.heap.size:=HB2.out.lt;clear hb2
 cases hx:(x != 0) with
 | true=>
  go_wp2_with fail;go_ret;refine⟨⟨_,1,1,[(m:Int)],rfl,own_new w2 _ 3 1 _ 1 _ rfl Hb2.out.size o_ rfl,rfl,fun y hy=>by simp at hy;omega,Nat.one_le_two_pow,fun h=>absurd (HXX.out.symm.trans (HZZ.out m hm h)) (by simpa using hx),fun _=>⟨rfl,rfl⟩⟩,Hb2.out.alloc Hb2.out.size _⟩
 | false=>
  go_wp2_with fail;refine(half_any m w2 hm).mono ?_;rintro _ w3 ⟨rfl,rfl⟩;by_cases hh:hv m=0
  · (have hh':((hv m:Nat):Int)=0:=by omega);rw[hh'];go_wp2_with fail;go_ret;exact⟨⟨none,0,0,[],rfl,World.ownsRow_nil _ _ _ _,rfl,fun y hy=>by simp at hy,Nat.zero_le _,fun _=>rfl,fun h=>absurd (HXX.out.trans (by simpa using hx:x=0)) h⟩,Hb2.out⟩
  have hne:(((hv m:Nat):Int)==0)=false:=by rw[beq_eq_false_iff_ne];omega
  have HCh0:=HKids.out hh;have HCh:Hid (m-hv m<15/\lvl (m-hv m)<k/\m+hv m<15/\lvl (m+hv m)<k):=⟨HCh0.1.1,by omega,HCh0.2.1.1,by omega⟩;have hsub:IntKind.i64.wrap ((m:Int)-(hv m:Nat))=((m-hv m:Nat):Int):=by rw[IntWalk.i64_in _ o_];omega
  have hadd:IntKind.i64.wrap ((m:Int)+(hv m:Nat))=(m:Int)+(hv m:Nat):=IntWalk.i64_in _ o_;have hk1:1<=k:=by omega
  have hpw:2 ^ (k-1)+2 ^ (k-1)=2 ^ k/\2 ^ (k-1)<=4:=by(have e:k=1\/k=2\/k=3:=by omega);rcases e with rfl|rfl|rfl<;>decide
  have HNE:=hd_ hh;clear HCh0 hh;go_wp2_with fail;refine start_ (n:=14) (S:=fun w'=>w'.rangeAt w.heap.size 0 (ints .i64 t)) (ds:=[]) (bt 14 0) kk rfl rfl ?hS7 (fun hH=>?_);rotate_left;generalize hw3d:w2.drew=w3d at hH ⊢;have Hb3:Hid (Bl w w3d):=by rw[<-hw3d];exact Hb2.out.drew
  have hl3:w.heap.size<w3d.heap.size:=by rw[<-hw3d];exact hl2
  clear hw3d;refine take_ (i:=0) (N:=some 20) (v:=.agg (ints .i64 t).toArray) (a':=?_) (bt 14 1) rfl rfl kk (fun _ _ _ h=>h) (yieldsIf_load_mid rr 40 (.tmp 2) rr w.heap.size 0 rr (ints .i64 t) _ (fun _ h=>h) underlying40 rfl HI.out) hH ?_ ?_;rotate_left
  · simp only[Act.put,List.setIfInBounds_toArray,List.set_cons_zero,List.set_cons_succ];rfl
  refine pure_ (i:=1) (N:=some 21) (v:=?_) (a':=?_) (bt 14 3) rfl rfl kk (fun _ _ _ h=>h) (Or.inl ⟨by rfl,?_⟩) ?_ ?_;rotate_left
  · intro w';go_simp;with_reducible rfl
  rotate_left
  · simp only[Act.put,List.setIfInBounds_toArray,List.set_cons_zero,List.set_cons_succ];rfl
  refine pure_ (i:=2) (N:=some 22) (v:=?_) (a':=?_) (bt 14 7) rfl rfl kk (fun _ _ _ h=>h) (Or.inl ⟨by rfl,?_⟩) ?_ ?_;rotate_left
  · intro w';go_simp;with_reducible rfl
  rotate_left
  · simp only[Act.put,List.setIfInBounds_toArray,List.set_cons_zero,List.set_cons_succ];rfl
  refine take_ (i:=6) (N:=some 26) (v:=.agg (ints .i64 t).toArray) (a':=?_) (bt 14 71) rfl rfl kk (fun _ _ _ h=>h) (yieldsIf_load_mid rr 40 (.tmp 2) rr w.heap.size 0 rr (ints .i64 t) _ (fun _ h=>h) underlying40 rfl HI.out) hH ?_ ?_;rotate_left
  · simp only[Act.put,List.setIfInBounds_toArray,List.set_cons_zero,List.set_cons_succ];rfl
  refine pure_ (i:=7) (N:=some 27) (v:=?_) (a':=?_) (bt 14 199) rfl rfl kk (fun _ _ _ h=>h) (Or.inl ⟨by rfl,?_⟩) ?_ ?_;rotate_left
  · intro w';go_simp;with_reducible rfl
  rotate_left
  · simp only[Act.put,List.setIfInBounds_toArray,List.set_cons_zero,List.set_cons_succ];rfl
  refine pure_ (i:=8) (N:=some 28) (v:=?_) (a':=?_) (bt 14 455) rfl rfl kk (fun _ _ _ h=>h) (Or.inl ⟨by rfl,?_⟩) ?_ ?_;rotate_left
  · intro w';go_simp;with_reducible rfl
  rotate_left
  · simp only[Act.put,List.setIfInBounds_toArray,List.set_cons_zero,List.set_cons_succ];rfl
  refine one_ (i:=3) (N:=some 23) (bt 14 463) rfl rfl kk dd (fun K hK=>?_);refine goes_ func207 kk rfl #[.int .i64 m] rr rfl rfl mL ?_;refine(half_any m w3d hm).mono ?_;rintro _ w4 ⟨rfl,rfl⟩;refine⟨_,rfl,?_⟩;refine hK.out _ _ hH (fun hH=>?_);clear hK K;refine mN ?_;refine pure_ (i:=4) (N:=some 24) (v:=?_) (a':=?_) (bt 14 479) rfl rfl kk (fun _ _ _ h=>h) (Or.inl ⟨by rfl,?_⟩) ?_ ?_;rotate_left
  · intro w';go_simp;with_reducible rfl
  rotate_left
  · simp only[Act.put,List.setIfInBounds_toArray,List.set_cons_zero,List.set_cons_succ];rfl
  refine one_ (i:=5) (N:=some 25) (bt 14 511) rfl rfl kk dd (fun K hK=>?_);refine goes_ func184 kk rfl #[.agg (ints .i64 t).toArray,.int .i64 ((m-hv m:Nat):Int)] rr rfl rfl mL ?_;refine(ih _ w3d HCh.out.1 HCh.out.2.1).mono ?_;rintro _ w5 ⟨⟨A5,k5,c5,l5,rfl,ho5,hl5,hp5,hk5,hz5,-⟩,hb5⟩;refine⟨_,rfl,?_⟩;have Hb5:Hid (Bl w w5):=Hb3.out.trans (hb5.mono Hb3.out.size);have hl5':w.heap.size<w5.heap.size:=Nat.lt_of_lt_of_le hl3 hb5.size;have HO5:Hid (w5.ownsRow (w.heap.size+1) 3 1 (.slice A5 k5 c5) k5 (ints .i64 l5)):=own_mono ho5 hl3;refine hK.out _ _ (fun j v hv=>by rw[hb5.cell hl3];exact hH j v hv) (fun hH=>?_);clear hK K hb5 ho5;refine mN ?_;refine one_ (i:=9) (N:=some 29) (bt 14 1023) rfl rfl kk dd (fun K hK=>?_);refine goes_ func207 kk rfl #[.int .i64 m] rr rfl rfl mL ?_;refine(half_any m w5 hm).mono ?_;rintro _ w4 ⟨rfl,rfl⟩;refine⟨_,rfl,?_⟩;refine hK.out _ _ hH (fun hH=>?_);clear hK K;refine mN ?_;refine pure_ (i:=10) (N:=some 30) (v:=?_) (a':=?_) (bt 14 2047) rfl rfl kk (fun _ _ _ h=>h) (Or.inl ⟨by rfl,?_⟩) ?_ ?_;rotate_left
  · intro w';go_simp;with_reducible rfl
  rotate_left
  · simp only[Act.put,List.setIfInBounds_toArray,List.set_cons_zero,List.set_cons_succ];rfl
  refine one_ (i:=11) (N:=some 31) (bt 14 4095) rfl rfl kk dd (fun K hK=>?_);refine goes_ func184 kk rfl #[.agg (ints .i64 t).toArray,.int .i64 ((m+hv m:Nat):Int)] rr rfl rfl mL ?_;refine(ih _ w5 HCh.out.2.2.1 HCh.out.2.2.2).mono ?_;rintro _ w6 ⟨⟨A6,k6,c6,l6,rfl,ho6,hl6,hp6,hk6,hz6,-⟩,hb6⟩;refine⟨_,rfl,?_⟩;have Hb6:Hid (Bl w w6):=Hb5.out.trans (hb6.mono Hb5.out.size);have hl6':w.heap.size<w6.heap.size:=Nat.lt_of_lt_of_le hl5' hb6.size;have HO6:Hid (Rg w6 1 A6 k6 c6 (ints .i64 l6)):=own_rg ho6;have HO56:Hid (w6.ownsRow (w.heap.size+1) 3 1 (.slice A5 k5 c5) k5 (ints .i64 l5)):=own_below HO5.out hb6;refine hK.out _ _ (fun j v hv=>by rw[hb6.cell hl5'];exact hH j v hv) (fun hH=>?_);clear hK K hb6 ho6 HO5;refine mN ?_;refine one_ (i:=12) (N:=some 32) (bt 14 8191) rfl rfl kk dd (fun K hK=>?_);refine step_append_rg rfl (.tmp 25) (.tmp 31) 228 rr (w.heap.size+1) 3 1 8 et228 (.slice A5 k5 c5) k5 (ints .i64 l5) rr HO56.out A6 k6 c6 (ints .i64 l6) rr HO6.out ints_one o_ (by unfold maxLen;omega) hl6' ?_;intro A7 c7 w7 hown7 hgrow hb7 hat;have Hb7:Hid (Bl w w7):=Hb6.out.trans (hb7.mono (Nat.le_succ _));have HO7:=hd_ hown7;refine hK.out _ _ (fun j v hv=>by rw[hb7.cell (Nat.lt_succ_self _)];exact hH j v hv) (fun hH=>?_);clear hK K hgrow hb7 hat hown7;refine norm_ (a':=?_) ?_ ?_;rotate_left
  · show Act.put _ (some 32) _=_;simp only[Act.put,List.setIfInBounds_toArray,List.set_cons_zero,List.set_cons_succ];rfl
  refine pure_ (i:=13) (N:=some 4) (v:=?_) (a':=?_) (bt 14 16383) rfl rfl kk (fun _ _ _ h=>h) (Or.inl ⟨by rfl,?_⟩) ?_ ?_;rotate_left
  · intro w';go_simp;with_reducible rfl
  rotate_left
  · simp only[Act.put,List.setIfInBounds_toArray,List.set_cons_zero,List.set_cons_succ];rfl
  refine done_ kk ?_;go_wp2_with fail;go_ret;refine⟨⟨A7,k5+k6,c7,l5++l6,rfl,?_,by rw[List.length_append,hl5,hl6],fun y hy=>?_,by omega,fun h=>?_,fun h=>absurd (HXX.out.trans (by simpa using hx:x=0)) h⟩,Hb7.out⟩
  · have:=HO7.out;unfold ints at this ⊢;rw[List.map_append];exact own_mono this (Nat.le_succ _)
  · (rcases List.mem_append.1 hy with h|h);(· exact hp5 y h);exact hp6 y h
  · have:=HZK.out h (HNE.out);have e5:=hz5 this.1;have e6:=hz6 this.2;omega
  case hS7=>exact HB2.out.range
theorem res_t(t:List Int)(ht:t.length=31)(hz:∀m,m<15->Zm m->keyT t m=0):∀(k:Nat),k<=3->∀(m:Nat) (w:World),m<15->lvl m<=k->Calls prog 184 #[.agg (ints .i64 t).toArray,.int .i64 m] w (ResT t k m w)
 | 0,h,m,w,hm,hk=>res_step_t t ht hz 0 h (fun m w _ h=>by omega) m w hm hk
 | k+1,h,m,w,hm,hk=>res_step_t t ht hz (k+1) h (fun m w hm hk=>res_t t ht hz k o_ m w hm o_) m w hm hk
def NodV(E:List Int)(w:World)(b i:Nat):Prop:=∃l:List Int,l.length=3/\Blk w b .i64 128 l/\∀j,j<i->l[j]? = E[j]?
theorem NodV.row{E:List Int}(h:NodV E w b i):Row w b .i64 128 3:=by obtain⟨l,h1,h2,_⟩:=h;exact⟨l,h1,h2⟩
theorem NodV.set{E:List Int}(h:NodV E w b i)(hi:i<3)(x:Int)(hx:E[i]? = some x):NodV E (w.setCell ⟨b,i,none⟩ (.int .i64 x)) b (i+1):=by
 obtain⟨l,h1,h2,h4⟩:=h;refine⟨_,by rw[List.length_set];exact h1,h2.set i x,fun j hj=>?_⟩;by_cases e:j=i
 · subst e;rw[List.getElem?_set_self o_,hx]
 rw[List.getElem?_set_ne (fun h=>e h.symm)];exact h4 j o_
theorem NodV.new(E:List Int)(w:World)(b:Nat)(hb:w.heap.size=b):NodV E (w.alloc (.cells #[.int .i64 0,.int .i64 0,.int .i64 0] 128)) b 0:=
 ⟨[0,0,0],rfl,blk_new w .i64 128 [0,0,0] b hb,fun _ h=>by omega⟩
theorem NodV.fin{E:List Int}(h:NodV E w b 3)(hE:E.length=3):Blk w b .i64 128 E:=by
 obtain⟨l,h1,h2,h4⟩:=h;have:l=E:=List.ext_getElem? fun j=>by
  by_cases hj:j<3
  · exact h4 j hj
  rw[List.getElem?_eq_none o_,List.getElem?_eq_none o_]
 rw[<-this];exact h2
theorem path_t(n:Int)(w:World)(hn0:n=0):Calls prog 160 #[.int .i64 n] w fun r w'=>r=.returned (.agg #[.int .i64 1,.int .i64 3,.int .i64 7])/\Bl w w':=by
 obtain⟨q,hq⟩:∃q,decide (0<=n/\n<8)=q:=⟨_,rfl⟩;have hqt:q=true:=by rw[<-hq];simp[hn0]
 have HN0:=hd_ hn0;clear hn0;have HQ:=hd_ hq;clear hq;go_enter func160,ntmps160
 go_wp2_with fail;go_loopw [5] (fun v wr=>∃i:Nat,v=.int .i64 i/\i<=3/\Hid (NodV [1,3,7] wr (w.heap.size+1) i)/\Hid (Row wr w.heap.size .i64 128 3)/\Hid (Bl w wr)) (fun v _=>3-(intOf v).toNat)
 case atStart=>exact⟨0,rfl,by omega,NodV.new _ _ _ s_,(Row.new [_,_,_] _ rfl rfl).alloc _,bal b0_⟩
 case round=>
  obtain⟨i,rfl,hi,hN,hR,hb⟩:=hrel;by_cases hlt:i<3
  · go_wp2_with fail;refine(isLeaf_any _ _).mono ?_;rintro _ w2 ⟨rfl,rfl⟩;rw[HQ.out]
    cases q with
    | false=>cases hqt
    | true=>
     (have hn:0<=n/\n<8:=by simpa using HQ.out);obtain⟨m,rfl⟩:=Int.eq_ofNat_of_zero_le hn.1;(have hm:m<8:=by omega);obtain⟨y,hy⟩:=hN.out.row.at i hlt;have fy:=hN.out.row.free i;go_wp2_with fail;refine(above_any m (i+1) _ hm o_).mono ?_;rintro _ w2 ⟨rfl,rfl⟩;(have hr:([1,3,7]:List Int)[i]? = some ((2*(m / 2 ^ (i+1)*2 ^ (i+1))+2 ^ (i+1)-1:Nat):Int):=by(have hm0:m=0:=by have:=HN0.out;omega);subst hm0;rcases(show i=0\/i=1\/i=2 by omega) with rfl|rfl|rfl<;>rfl);generalize 2*(m / 2 ^ (i+1)*2 ^ (i+1))+2 ^ (i+1)-1=z at hr ⊢;go_wp2_with fail;exact⟨⟨i+1,by go_num,by omega,hN.out.set hlt _ hr,hR.out.other o_ _ _,hb.out.setCell (Nat.le_succ _) _⟩,by simp[intOf];omega⟩
  obtain rfl:i=3:=by omega
  have hB:Blk wr (w.heap.size+1) .i64 128 [1,3,7]:=hN.out.fin rfl;have c0:=hB.cell (i:=0) rfl;have c1:=hB.cell (i:=1) rfl;have c2:=hB.cell (i:=2) rfl;obtain⟨y0,d0⟩:=hR.out.at 0 o_;obtain⟨y1,d1⟩:=hR.out.at 1 o_;obtain⟨y2,d2⟩:=hR.out.at 2 o_;have f0:=hR.out.free 0;have f1:=hR.out.free 1;have f2:=hR.out.free 2;clear hB;go_wp2_with fail;generalize hW:World.setCell _ _ _=W2;have hBw:Blk W2 w.heap.size .i64 128 [1,3,7]:=by
   obtain⟨l,hl,hB⟩:=hR.out;obtain⟨a',b',c',rfl⟩:∃a b c,l=[a,b,c]:=by
    match l,hl with
    | [a,b,c],_=>exact⟨a,b,c,rfl⟩
   rw[<-hW];exact((hB.set 0 1).set 1 3).set 2 7
  have HB2:Hid (Bl w W2):=by rw[<-hW];exact((hb.out.setCell (Nat.le_refl _) _).setCell (Nat.le_refl _) _).setCell (Nat.le_refl _) _
  clear hW c0 c1 c2 d0 d1 d2 f0 f1 f2;have hload:=hBw.loads underlying128 rfl info128;refine bodyPost_ret (v:=.agg #[.int .i64 1,.int .i64 3,.int .i64 7]) (by simp[results,results160,asAddr,Act.put,hload,ints]) rfl ⟨rfl,HB2.out⟩
theorem side_t(n:Int)(w:World)(hn0:n=0):Calls prog 183 #[.int .i64 n] w fun r w'=>r=.returned (.agg #[.int .i64 2,.int .i64 5,.int .i64 11])/\Bl w w':=by
 obtain⟨q,hq⟩:∃q,decide (0<=n/\n<8)=q:=⟨_,rfl⟩;have hqt:q=true:=by rw[<-hq];simp[hn0]
 have HN0:=hd_ hn0;clear hn0;have HQ:=hd_ hq;clear hq;go_enter func183,ntmps183
 go_wp2_with fail;go_loopw [5] (fun v wr=>∃i:Nat,v=.int .i64 i/\i<=3/\Hid (NodV [2,5,11] wr (w.heap.size+1) i)/\Hid (Row wr w.heap.size .i64 128 3)/\Hid (Bl w wr)) (fun v _=>3-(intOf v).toNat)
 case atStart=>exact⟨0,rfl,by omega,NodV.new _ _ _ s_,(Row.new [_,_,_] _ rfl rfl).alloc _,bal b0_⟩
 case round=>
  obtain⟨i,rfl,hi,hN,hR,hb⟩:=hrel;by_cases hlt:i<3
  · go_wp2_with fail;refine(isLeaf_any _ _).mono ?_;rintro _ w2 ⟨rfl,rfl⟩;rw[HQ.out]
    cases q with
    | false=>cases hqt
    | true=>
     (have hn:0<=n/\n<8:=by simpa using HQ.out);obtain⟨m,rfl⟩:=Int.eq_ofNat_of_zero_le hn.1;(have hm:m<8:=by omega);obtain⟨y,hy⟩:=hN.out.row.at i hlt;have fy:=hN.out.row.free i;go_wp2_with fail;(have hme:bits BinOp.xor IntKind.i64 (m:Int) (wrap64 (2 ^ i))=((2 ^ i:Nat):Int)/\2 ^ i<8:=by(have hm0:m=0:=by have:=HN0.out;omega);subst hm0;rcases(show i=0\/i=1\/i=2 by omega) with rfl|rfl|rfl<;>exact⟨by decide +kernel,by decide⟩);obtain⟨m2,hm2e⟩:=ex_ (2 ^ i);(have hm2:m2<8:=by rw[hm2e];exact hme.2);rw[hme.1,<- hm2e];refine(above_any m2 i _ hm2 o_).mono ?_;rintro _ w2 ⟨rfl,rfl⟩;(have hr:([2,5,11]:List Int)[i]? = some ((2*(m2 / 2 ^ i*2 ^ i)+2 ^ i-1:Nat):Int):=by subst hm2e;rcases(show i=0\/i=1\/i=2 by omega) with rfl|rfl|rfl<;>rfl);generalize 2*(m2 / 2 ^ i*2 ^ i)+2 ^ i-1=z at hr ⊢;clear hme hm2 hm2e;go_wp2_with fail;exact⟨⟨i+1,by go_num,by omega,hN.out.set hlt _ hr,hR.out.other o_ _ _,hb.out.setCell (Nat.le_succ _) _⟩,by simp[intOf];omega⟩
  obtain rfl:i=3:=by omega
  have hB:Blk wr (w.heap.size+1) .i64 128 [2,5,11]:=hN.out.fin rfl;have c0:=hB.cell (i:=0) rfl;have c1:=hB.cell (i:=1) rfl;have c2:=hB.cell (i:=2) rfl;obtain⟨y0,d0⟩:=hR.out.at 0 o_;obtain⟨y1,d1⟩:=hR.out.at 1 o_;obtain⟨y2,d2⟩:=hR.out.at 2 o_;have f0:=hR.out.free 0;have f1:=hR.out.free 1;have f2:=hR.out.free 2;clear hB;go_wp2_with fail;generalize hW:World.setCell _ _ _=W2;have hBw:Blk W2 w.heap.size .i64 128 [2,5,11]:=by
   obtain⟨l,hl,hB⟩:=hR.out;obtain⟨a',b',c',rfl⟩:∃a b c,l=[a,b,c]:=by
    match l,hl with
    | [a,b,c],_=>exact⟨a,b,c,rfl⟩
   rw[<-hW];exact((hB.set 0 2).set 1 5).set 2 11
  have HB2:Hid (Bl w W2):=by rw[<-hW];exact((hb.out.setCell (Nat.le_refl _) _).setCell (Nat.le_refl _) _).setCell (Nat.le_refl _) _
  clear hW c0 c1 c2 d0 d1 d2 f0 f1 f2;have hload:=hBw.loads underlying128 rfl info128;refine bodyPost_ret (v:=.agg #[.int .i64 2,.int .i64 5,.int .i64 11]) (by simp[results,results183,asAddr,Act.put,hload,ints]) rfl ⟨rfl,HB2.out⟩
end Go.Proofs.YtppjnahcnofokaaGreat.T
namespace Go.Proofs.YtppjnahcnofokaaGreat.T
open Go.RowKit Go.Proofs.YtppjnahcnofokaaGreatW.PrintLast
open Go.Proofs.Tryz
variable{k:IntKind}{a:Act}{b i n B base m fuel D B':Nat}{l ch p t0 q:List Int}{w w' w1 w2:World}{t:TypeId}{P:Int->Int->Prop}{cs:Array Value}{A A':Option Addr}{o oi:Oper}{e s f st fl:Int}{xs:List (List Int×Int×Int×Int)}{ops:Array Oper}{rest l0:List Oper}{v:Value}{r:Option Nat}{rs rs2:List (Option Addr×Nat×Nat×List Int)}{E:Prop}{vs l3:List Value}{ad ai go:List Bool}{N:Act->Prop}{place:Nat->Option (Nat×Nat)}{bad:Bool}{es es':List (Int×List Int)}{T:List TypeId}{ps:List (List Int)}
structure TwoOk (t:List Int):Prop where
 len:t.length=31
 z:∀m,m<15->Zm m->keyT t m=0
 h2:keyT t 2≠0
theorem plan_t(t:List Int)(bu:List Bool)(w:World)(h2:TwoOk t)(hbu:bu.length=8)(hb1:bu[1]? = some true):Calls prog 129 #[.agg (ints .i64 t).toArray,.int .i64 0,.agg (bools bu).toArray] w fun r w'=>r=.returned (.slice none 0 0)/\Bl w w':=by
 obtain⟨w1,hW⟩:=ex_ ((w.alloc (.cells (ints .i64 t).toArray 40)).alloc (.cells (bools bu).toArray 41));have HB1:Hid (Bl w w1):=by rw[hW];exact bal b0_
 have HT1:Hid (Blk w1 w.heap.size .i64 40 t):=by rw[hW];exact(blk40 w t).below b0_ s_
 have HU1:Hid (Cel w1 (w.heap.size+1) 41 (bools bu)):=by rw[hW];exact Cel.new _ s_ rfl
 have H11:Hid (Bl w1 w1):=Below.refl _ _;have HT:Hid (t.length=31):=h2.len;have H22:=hd_ h2;have HU1b:Hid ((bools bu)[1]? = some (.bool true)):=by show _=_;simp[bools,hb1]
 have HU:=hd_ hbu;have HW:=hd_ hW;have HR0:Hid (Bl w ((w.alloc (.cells (ints .i64 t).toArray 40)).alloc (.cells (bools bu).toArray 41))):=bal b0_;clear hW h2 hbu hb1;go_enter func129,ntmps129
 · · go_wp2_with ((change Calls _ _ _ ((w.alloc (.cells (ints .i64 t).toArray 40)).alloc (.cells (bools bu).toArray 41)) _);fail);change Calls _ _ _ ((w.alloc (.cells (ints .i64 t).toArray 40)).alloc (.cells (bools bu).toArray 41)) _;rw[<-HW.out];refine(side_t 0 w1 rfl).mono ?_;rintro _ w2 ⟨rfl,hb2⟩;have HB2:Hid (Bl w1 w2):=hb2;clear hb2;go_wp2_with fail;(go_loopw [7,20] (fun vx v wr=>∃(i:Nat),v=.int .i64 i/\vx=.slice none 0 0/\i<=3/\Hid (Bl w1 wr)) (fun _ v _=>3-(intOf v).toNat));(case atStart=>exact⟨0,rfl,rfl,Nat.zero_le _,HB2⟩)
     case round=>
      clear HB2
      obtain⟨wa,rfl⟩:=ex_ (wr)
      obtain⟨i,rfl,rfl,hi,HB⟩:=hrel
      by_cases hlt:i<3
      · obtain⟨q,hq,hx⟩:=idx3 2 5 11 i hlt wa;(have hq15:0<=q/\q<15:=by rcases hq with rfl|rfl|rfl<;>decide);obtain⟨z,rfl⟩:=Int.eq_ofNat_of_zero_le hq15.1;(have hz:z<15:=by omega);(have hzz:z=2\/Zm z:=by(rcases hq with h|h|h);(· exact .inl o_);(· exact .inr (by show decide _=true;simp;omega));exact .inr (by show decide _=true;simp;omega));have HZZ:=hd_ hzz;have HX:=hd_ hx;have HTa:=hd_ (HT1.out.below HB.out HT1.out.lt);clear hx hq hq15 hzz
        go_wp2_with (first
         | (refine wpList_index rfl 128 (.tmp 19) (.tmp 20) rfl _ _ _ rr rr HX.out ?_)
         | (refine wpList_load_mid rfl 40 (.tmp 3) rr w.heap.size 0 rr (ints .i64 t) _ HTa.out.range underlying40 rfl (hi40 HT.out).out ?_))
        refine(res_t t HT.out H22.out.z 3 (Nat.le_refl _) z wa hz (lvl3 z hz)).mono ?_;rintro _ w4 ⟨⟨A4,n4,c4,l4,rfl,ho4,hl4,hx4,hn4,hz4,hh4⟩,hb4⟩;(have HL2:Hid (∀j,j<n4->l4[j]? = some 2):=by(rcases HZZ.out with h|h);(· subst h;obtain⟨e1,e2⟩:=hh4 H22.out.h2;intro j hj;(obtain rfl:j=0:=by omega);rw[e2];rfl);intro j hj;rw[hz4 h]at hj;omega);have HB4:=tb_ HB hb4;have HI4:Hid (RgI w4 1 A4 n4 c4 (ints .i64 l4) wa.heap.size w4.heap.size):=own_rgI ho4;obtain⟨s4,hs4⟩:=ex_ (w4.heap.size);have HL4:=hd_ hl4;have HX4:=hd_ hx4;have hn8:n4<=8:=hn4;have hsa:=HB.out.size;clear ho4 hl4 hx4 hn4 hb4 hz4 hh4 HB HTa HX HZZ;go_wp2_with fail;(go_loopw [7,28] (fun vx v wr=>∃(j:Nat),v=.int .i64 j/\vx=.slice none 0 0/\j<=n4/\Hid (Bl w1 wr)/\Hid (RgI wr 1 A4 n4 c4 (ints .i64 l4) wa.heap.size s4)/\s4<=wr.heap.size) (fun _ v _=>n4-(intOf v).toNat));(case atStart=>exact⟨0,rfl,rfl,Nat.zero_le _,HB4,by rw[hs4];exact HI4,by omega⟩);case round=>
         clear HB4 HI4;obtain⟨wb,rfl⟩:=ex_ (wr);obtain⟨j,rfl,rfl,hj,HB,HI,hsb⟩:=hrel;by_cases hlj:j<n4;(· obtain⟨bb,oo,e4,hlt4,hr4⟩:=HI.out.rg.at_ (by have:=HI.out.rg.cap;omega);subst e4;have ky:wb.cell? ⟨bb,oo+j,none⟩=some (.int .i64 2):=hr4 j _ (ints_get (HL2.out j hlj));have hcap:=HI.out.rg.cap;clear hr4;have HUb:=hd_ (HU1.out.below HB.out HU1.out.lt);have ku:wb.cell? ⟨w.heap.size+1,1,none⟩=some (.bool true):=(HUb.out.cell _).trans HU1b.out;go_wp2_with fail;go_roundw;(case rel=>exact⟨j+1,by go_num,rfl,by omega,HB,HI,hsb⟩);case measure=>simp[intOf];omega);go_wp2_with fail;exact⟨⟨i+1,by go_num,rfl,by omega,HB⟩,by simp[intOf];omega⟩
      · go_wp2_with fail;go_ret;exact⟨rfl,HB1.out.trans (HB.out.mono HB1.out.size)⟩
theorem boxes_t(b:Nat)(x:PyP)(e k:Int)(t ch:List Int)(ad bu:List Bool)(p:List Int)(w:World)(hc:Cel w b 82 (pyC x))(hok:PyOk x)(hv:VwOk t ad ch)(hbu:bu.length=8)(h2:TwoOk t)(hb1:bu[1]? = some true)(hl0:x.lf=0)(hp:p.length=32):Calls prog 103 #[.pointer (some ⟨b,0,none⟩),.agg (vw e t ad k ch).toArray,.agg (bools bu).toArray,.agg (ints .u8 p).toArray] w fun r w'=>r=.returned (.tuple #[.slice none 0 0,.int .i64 0])/\Bl w w':=by
 obtain⟨w1,hW⟩:=ex_ ((((w.alloc (.cells (vw e t ad k ch).toArray 45)).alloc (.cells (bools bu).toArray 41)).alloc (.cells (ints .u8 p).toArray 43)));have hbe1:Bl w w1:=by rw[hW];exact bal (bal b0_)
 have HB1:=hd_ hbe1;clear hbe1;have HV1:Hid (Cel w1 w.heap.size 45 (vw e t ad k ch)):=by rw[hW];exact((Cel.new _ rfl rfl).alloc _).alloc _
 have HU1:Hid (Cel w1 (w.heap.size+1) 41 (bools bu)):=by rw[hW];exact(Cel.new _ s_ rfl).alloc _
 have HP1:Hid (Blk w1 (w.heap.size+2) .u8 43 p):=by rw[hW];exact blk_new _ .u8 43 p _ s_
 have HC0:=hd_ hc;have HOk:=hd_ hok;have HV:=hd_ hv;have HU:=hd_ hbu;have HPp:=hd_ hp;have hbw:b<w.heap.size:=hc.lt;have HMM:=hd_ hl0;have H22:=hd_ h2;have HB11:=hd_ hb1;have HW:=hd_ hW;clear hW hc hok hv hbu hp h2 hb1 hl0;go_enter func103,ntmps103
 go_wp2_with fail;refine pr_ 0 10 (bt 10 0) fun w1d hw1d=>?_;refine mG ?_;have hV:Hid (Cel w1d w.heap.size 45 (vw e t ad k ch)):=by rw[<-hw1d,<- HW.out];exact HV1.out.drew
 have hU:Hid (Cel w1d (w.heap.size+1) 41 (bools bu)):=by rw[<-hw1d,<- HW.out];exact HU1.out.drew
 have hP:Hid (Blk w1d (w.heap.size+2) .u8 43 p):=by rw[<-hw1d,<- HW.out];exact HP1.out.drew
 have hB:Hid (Bl w w1d):=by rw[<-hw1d,<- HW.out];exact HB1.out.drew
 have hH:(fun w'=>w'.cell? ⟨b,73,none⟩=some (.int .i64 0)/\Hid (Cel w' w.heap.size 45 (vw e t ad k ch))/\Hid (Cel w' (w.heap.size+1) 41 (bools bu))) w1d:=⟨((HC0.out.below hB.out hbw).cell 73).trans ((py_lf HOk.out).trans (by rw[HMM.out])),hV,hU⟩;clear hw1d;refine wpAny_of_last (S:=fun w'=>w'.cell? ⟨b,73,none⟩=some (.int .i64 0)/\Hid (Cel w' w.heap.size 45 (vw e t ad k ch))/\Hid (Cel w' (w.heap.size+1) 41 (bools bu))) (ds:=[]) _ _ _ _ ?_;refine ts_ 0 7 3 (bt 10 127) hH ?_;refine mD ?_;repeat (first|(refine tk_ 40 (.tmp 15) w.heap.size 1 (ints .i64 t) (fun _ h=>vw_trange HV.out h.2.1.out) underlying40 rfl (hi40 HV.out.tree).out ?_)|(refine tk_ 41 (.tmp 6) (w.heap.size+1) 0 (bools bu) (fun _ h=>h.2.2.out.all) underlying41 rfl (hi41 HU.out) ?_)|(refine uA ?_)|(refine mB3 ?_))
 refine takes_nil ?_;refine ts_ 9 1 2 (bt 10 639) hH ?_;refine mD ?_;repeat (first|(refine tk_ 40 (.tmp 15) w.heap.size 1 (ints .i64 t) (fun _ h=>vw_trange HV.out h.2.1.out) underlying40 rfl (hi40 HV.out.tree).out ?_)|(refine tk_ 41 (.tmp 6) (w.heap.size+1) 0 (bools bu) (fun _ h=>h.2.2.out.all) underlying41 rfl (hi41 HU.out) ?_)|(refine uA ?_)|(refine mB3 ?_))
 refine takes_nil ?_;refine one_ (i:=7) (N:=some 22) (bt 10 767) rfl rfl kk dd (fun K hK=>?_);refine goes_ func129 kk rfl #[.agg (ints .i64 t).toArray,.int .i64 0,.agg (bools bu).toArray] rr rfl rfl mL ?_;refine(plan_t t bu _ H22.out HU.out HB11.out).mono ?_;rintro _ w2 ⟨rfl,hb⟩;refine⟨_,rfl,?_⟩;have HV2:=hd_ (hV.out.below hb hV.out.lt);have HU2:=hd_ (hU.out.below hb hU.out.lt);have HP2:=hd_ (hP.out.below hb hP.out.lt);have HB2:=tb_ hB hb;refine hK.out _ _ ⟨((HC0.out.below HB2.out hbw).cell 73).trans ((py_lf HOk.out).trans (by rw[HMM.out])),HV2,HU2⟩ (fun hH=>?_);clear hK K hb hV hU hP hB;refine mN ?_;refine ts_ 8 1 0 (bt 10 1023) hH ?_;refine mD ?_;repeat (first|(refine tk_ 40 (.tmp 15) w.heap.size 1 (ints .i64 t) (fun _ h=>vw_trange HV.out h.2.1.out) underlying40 rfl (hi40 HV.out.tree).out ?_)|(refine tk_ 41 (.tmp 6) (w.heap.size+1) 0 (bools bu) (fun _ h=>h.2.2.out.all) underlying41 rfl (hi41 HU.out) ?_)|(refine uA ?_)|(refine mB3 ?_))
 refine takes_nil ?_;refine done_ kk ?_;clear hH;have hs2:w.heap.size+2<w2.heap.size:=HP2.out.lt;go_wp2_with fail;go_loopw [10,24] (fun vx v wr=>v=.int .i64 0/\vx=.slice none 0 0/\Hid (Bl w2 wr)) (fun _ _ _=>0)
 case atStart=>exact⟨rfl,rfl,Below.refl _ _⟩
 case round=>
  clear HV1 HU1 HP1 HB1;obtain⟨wa,rfl⟩:=ex_ (wr);obtain⟨rfl,rfl,HB⟩:=hrel;go_wp2_with fail;exact bodyPost_ret (v:=.tuple #[.slice none 0 0,.int .i64 0]) (by simp[results,results103,asAddr,Act.put]) rfl ⟨rfl,HB2.out.trans (HB.out.mono HB2.out.size)⟩
end Go.Proofs.YtppjnahcnofokaaGreat.T
