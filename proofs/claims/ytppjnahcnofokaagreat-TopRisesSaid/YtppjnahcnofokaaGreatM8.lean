import Derived.Test.YtppjnahcnofokaaGreatM0
import Derived.Test.YtppjnahcnofokaaGreatM7
set_option maxRecDepth 100000
set_option maxHeartbeats 32000000
set_option linter.unusedSimpArgs false
set_option linter.unusedVariables false
namespace Go.Proofs.YtppjnahcnofokaaGreat.T
open Go Go.RowKit Go.Lib Go.Proofs
open Go.Proofs.Tryz
variable{k:IntKind}{a:Act}{b i n B base m fuel D B':Nat}{l ch:List Int}{w w' w1 w2:World}{t:TypeId}{P:Program}{cs xs vs l3:List Value}{A A':Option Addr}{o oi:Oper}{e s f st fl:Int}{ops:Array Oper}{rest l0:List Oper}{v:Value}{r:Option Nat}{rs rs2:List (Option Addr×Nat×Nat×List Int)}{E:Prop}{ad ai go:List Bool}{N:Act->Prop}{place:Nat->Option (Nat×Nat)}{bad:Bool}{es es':List (Int×List Int)}{T:List TypeId}
/-! Whether two arrays or structs of whole numbers and truths are alike: each is told, and one is like itself. -/
def okk(k:Option IntKind)(v:Option Value):Prop:=match k with|some k=>∃z,v=some (.int k z)|none=>∃b,v=some (.bool b)
def FitsAt(xs:Array Value)(o:Nat)(K:List (Option IntKind)):Prop:=∀(i:Nat) (k:Option IntKind),K[i]? = some k->okk k xs[o+i]?
def PartT(P:Program)(d:Nat)(t:TypeId)(K:List (Option IntKind)):Prop:=∀(w:World) (xs ys:Array Value) (o:Nat),FitsAt xs o K->FitsAt ys o K ->
 ∃a b r,(part t xs o).run P w=.ok a w/\(part t ys o).run P w=.ok b w/\(Op.equalIn d t a b).run P w=.ok r w/\(xs=ys->r=true)
def SameT(P:Program)(d:Nat)(t:TypeId)(K:List (Option IntKind)):Prop:=∀(w:World) (xs ys:Array Value),FitsAt xs 0 K->FitsAt ys 0 K ->
 ∃r,(Op.equalIn d t (.agg xs) (.agg ys)).run P w=.ok r w/\(xs=ys->r=true)
section
variable {P:Program}
theorem part_int{d:Nat}(hu:P.underlying t=some (.int k)):PartT P (d+1) t [some k]:=by
 intro w xs ys o hx hy;obtain⟨z,hz⟩:=hx 0 (some k) rfl;obtain⟨y,hy⟩:=hy 0 (some k) rfl;refine⟨.int k z,.int k y,z==y,?_,?_,run_equalIn_int w d t k k z y hu,?_⟩
 · simp only[Nat.add_zero]at hz;simp[part,isAgg,run_underlying hu,hz]
 · simp only[Nat.add_zero]at hy;simp[part,isAgg,run_underlying hu,hy]
 intro e;subst e;rw[hz]at hy;cases hy
 simp
theorem part_bool{d:Nat}(hu:P.underlying t=some .bool):PartT P (d+1) t [none]:=by
 intro w xs ys o hx hy;obtain⟨z,hz⟩:=hx 0 none rfl;obtain⟨y,hy⟩:=hy 0 none rfl;refine⟨.bool z,.bool y,z==y,?_,?_,run_equalIn_bool w d t z y hu,?_⟩
 · simp only[Nat.add_zero]at hz;simp[part,isAgg,run_underlying hu,hz]
 · simp only[Nat.add_zero]at hy;simp[part,isAgg,run_underlying hu,hy]
 intro e;subst e;rw[hz]at hy;cases hy
 simp
theorem fits_part{xs:Array Value}{o s:Nat}{K Ke:List (Option IntKind)}(h:FitsAt xs o K)(hs:K.length=s)(hm:∀j k,Ke[j]? = some k->K[m+j]? = some k):FitsAt (xs.extract o (o+s)) m Ke:=by
 intro j k hk;have h1:=h (m+j) k (hm j k hk);have h2:m+j<K.length:=(List.getElem?_eq_some_iff.1 (hm j k hk)).1;have h3:o+(m+j)<xs.size:=by cases k<;>(obtain⟨z,hz⟩:=h1;exact(Array.getElem?_eq_some_iff.1 hz).1)
 rw[Array.getElem?_extract,if_pos o_];exact h1
theorem part_agg{d:Nat}{K:List (Option IntKind)}(h:SameT P d t K)(ha:∀w,(isAgg t).run P w=.ok true w)(hs:∀w,(sizeOf t).run P w=.ok K.length w):PartT P d t K:=by
 intro w xs ys o hx hy;obtain⟨r,h1,h2⟩:=h w (xs.extract o (o+K.length)) (ys.extract o (o+K.length)) (fits_part hx rfl (by intro j k hk;simpa using hk)) (fits_part hy rfl (by intro j k hk;simpa using hk));refine⟨_,_,r,?_,?_,h1,fun e=>h2 (by rw[e])⟩
 · simp[part,ha,hs]
 simp[part,ha,hs]
theorem same_array{d:Nat}{e:TypeId}{i:TypeInfo}{K Ke:List (Option IntKind)}(hu:P.underlying t=some (.array n e))(hi:P.info? e=some i)(h:PartT P d e Ke)(hK:∀m<n,∀j k,Ke[j]? = some k->K[m*P.cellsOf e+j]? = some k):SameT P (d+1) t K:=by
 intro w xs ys hx hy;rw[run_equalIn_array w d xs ys hu hi];have key:∀is:List Nat,(∀m ∈ is,m<n)->∃r,(Op.eqItems d e (P.cellsOf e) xs ys is).run P w=.ok r w/\(xs=ys->r=true):=by
  intro is
  induction is with
  | nil=>intro _;exact⟨true,by simp[Op.eqItems],fun _=>rfl⟩
  | cons m is ih=>
   intro hm;obtain⟨r',h1',h2'⟩:=ih (fun j hj=>hm j (by simp[hj]));(have fx:FitsAt xs (m*P.cellsOf e) Ke:=fun j k hk=>by have:=hx _ k (hK m (hm m s_) j k hk);simpa using this);(have fy:FitsAt ys (m*P.cellsOf e) Ke:=fun j k hk=>by have:=hy _ k (hK m (hm m s_) j k hk);simpa using this);obtain⟨a,b,r,p1,p2,p3,p4⟩:=h w xs ys _ fx fy;(cases r);(· exact⟨false,by simp[Op.eqItems,p1,p2,p3],fun e=>by simpa using p4 e⟩);exact⟨r',by simpa[Op.eqItems,p1,p2,p3] using h1',h2'⟩
 exact key _ (fun m hm=>by simpa using hm)
theorem same_struct{d:Nat}{fs:Array Field}{K:List (Option IntKind)}(hu:P.underlying t=some (.struct fs))(hp:P.stoodInHeld t=false)(h:∀f ∈ fs.toList,∃Kf,PartT P d f.type Kf/\∀j k,Kf[j]? = some k->K[f.offset+j]? = some k):SameT P (d+1) t K:=by
 intro w xs ys hx hy;have hf:P.fieldsOf t=fs:=by simp[Program.fieldsOf,hu]
 rw[run_equalIn_struct w d t xs ys (by rw[hf];exact hu) hp,hf];revert h;generalize fs.toList=l;intro h
 induction l with
 | nil=>exact⟨true,by simp[Op.eqFields],fun _=>rfl⟩
 | cons f l ih=>
  obtain⟨r',h1',h2'⟩:=ih (fun g hg=>h g (by simp[hg]));obtain⟨Kf,hP,hK⟩:=h f s_;have fx:FitsAt xs f.offset Kf:=fun j k hk=>by have:=hx _ k (hK j k hk);simpa using this
  have fy:FitsAt ys f.offset Kf:=fun j k hk=>by have:=hy _ k (hK j k hk);simpa using this
  obtain⟨a,b,r,p1,p2,p3,p4⟩:=hP w xs ys _ fx fy;rw[Op.eqFields];split
  · (cases r);(· exact⟨false,by simp[p1,p2,p3],fun e=>by simpa using p4 e⟩);exact⟨r',by simpa[p1,p2,p3] using h1',h2'⟩
  exact⟨r',h1',h2'⟩
end
/-! Of this program: hashes and views. -/
def k43:List (Option IntKind):=List.replicate 32 (some .u8)
def k41:List (Option IntKind):=List.replicate 8 none
def k36:List (Option IntKind):=List.replicate 2 (some .i64)
def k37:List (Option IntKind):=List.replicate 16 (some .i64)
def k38:List (Option IntKind):=List.replicate 15 (some .i64)
def k40:List (Option IntKind):=List.replicate 31 (some .i64)
def k45:List (Option IntKind):=[some .i64]++(k40++(k41++([some .i64]++k43)))
theorem isAgg_of(h:(match P.underlying t with|some (.array _ _)|some (.struct _)=>true|_=>false)=true)(w:World):(isAgg t).run P w=.ok true w:=by
 cases hu:P.underlying t with
 | none=>simp[hu]at h
 | some d=>cases d<;>simp_all [isAgg,run_underlying hu]
theorem sizeOf_of(h:(P.info? t).map (·.size)=some n)(w:World):(sizeOf t).run P w=.ok n w:=by
 cases hi:P.info? t with
 | none=>simp[hi]at h
 | some i=>
  rw[hi]at h;simp only[Option.map_some,Option.some.injEq]at h;rw[run_sizeOf w hi];simp[Program.cellsOf,hi,h]
theorem rep_get{k:Option IntKind}{c:Nat}(h:m+c<=n):∀j k',(List.replicate c k)[j]? = some k'->(List.replicate n k)[m+j]? = some k':=by
 intro j k' hk;have hj:j<c:=by have:=(List.getElem?_eq_some_iff.1 hk).1;simpa using this
 simp only[List.getElem?_replicate,if_pos hj]at hk;simpa[List.getElem?_replicate,show m+j<n by omega] using hk
theorem cells5:prog.cellsOf 5=1:=by kernel_rfl
theorem cells4:prog.cellsOf 4=1:=by kernel_rfl
theorem cells3:prog.cellsOf 3=1:=by kernel_rfl
theorem cells36:prog.cellsOf 36=2:=by kernel_rfl
theorem inf_of(h:(prog.info? t).isSome=true):∃i,prog.info? t=some i:=Option.isSome_iff_exists.1 h
theorem same43(d:Nat):SameT prog (d+2) 43 k43:=by
 obtain⟨i,hi⟩:=inf_of (t:=5) kk;exact same_array (n:=32) (e:=5) kk hi (part_int (k:=.u8) kk) (fun m hm=>by rw[cells5];exact rep_get (c:=1) o_)
theorem same41(d:Nat):SameT prog (d+2) 41 k41:=by
 obtain⟨i,hi⟩:=inf_of (t:=4) kk;exact same_array (n:=8) (e:=4) kk hi (part_bool kk) (fun m hm=>by rw[cells4];exact rep_get (c:=1) o_)
theorem same38(d:Nat):SameT prog (d+2) 38 k38:=by
 obtain⟨i,hi⟩:=inf_of (t:=3) kk;exact same_array (n:=15) (e:=3) kk hi (part_int (k:=.i64) kk) (fun m hm=>by rw[cells3];exact rep_get (c:=1) o_)
theorem same36(d:Nat):SameT prog (d+2) 36 k36:=by
 refine same_struct (fs := #[{ name := "Sign", type := 3, offset := 0, embedded := false, tag := "", pkgPath := "", byteOffset := 0 }, { name := "Seal", type := 3, offset := 1, embedded := false, tag := "", pkgPath := "", byteOffset := 8 }]) kk kk ?_;intro f hf;simp only [List.mem_cons,List.not_mem_nil,or_false] at hf;rcases hf with rfl | rfl
 · exact⟨_,part_int (k:=.i64) kk,rep_get (c:=1) (m:=0) o_⟩
 exact⟨_,part_int (k:=.i64) kk,rep_get (c:=1) (m:=1) o_⟩
theorem same37(d:Nat):SameT prog (d+3) 37 k37:=by
 obtain⟨i,hi⟩:=inf_of (t:=36) kk;exact same_array (n:=8) (e:=36) kk hi (part_agg (same36 d) (isAgg_of kk) (sizeOf_of kk)) (fun m hm=>by rw[cells36];exact rep_get (c:=2) o_)
theorem same40(d:Nat):SameT prog (d+4) 40 k40:=by
 refine same_struct (fs := #[{ name := "Leaves", type := 37, offset := 0, embedded := false, tag := "", pkgPath := "", byteOffset := 0 }, { name := "Nodes", type := 38, offset := 16, embedded := false, tag := "", pkgPath := "", byteOffset := 128 }]) kk kk ?_;intro f hf;simp only [List.mem_cons,List.not_mem_nil,or_false] at hf;rcases hf with rfl | rfl
 · exact⟨_,part_agg (same37 d) (isAgg_of kk) (sizeOf_of kk),rep_get (c:=16) (m:=0) o_⟩
 exact⟨_,part_agg (same38 (d+1)) (isAgg_of kk) (sizeOf_of kk),rep_get (c:=15) (m:=16) o_⟩
theorem app_get{A B C:List (Option IntKind)}(h:A.length=m):∀j k,B[j]? = some k->(A++(B++C))[m+j]? = some k:=by
 intro j k hk;have hj:=(List.getElem?_eq_some_iff.1 hk).1;rw[List.getElem?_append_right o_,List.getElem?_append_left o_];rw[show m+j-A.length=j by omega];exact hk
theorem same45(d:Nat):SameT prog (d+5) 45 k45:=by
 refine same_struct (fs := #[{ name := "Epoch", type := 3, offset := 0, embedded := false, tag := "", pkgPath := "", byteOffset := 0 },
         { name := "Tree", type := 40, offset := 1, embedded := false, tag := "", pkgPath := "", byteOffset := 8 },
         { name := "Admins", type := 41, offset := 32, embedded := false, tag := "", pkgPath := "",
           byteOffset:=256 },
         { name := "K", type := 3, offset := 40, embedded := false, tag := "", pkgPath := "", byteOffset := 264 },
         { name := "Chain", type := 43, offset := 41, embedded := false, tag := "", pkgPath := "",
           byteOffset:=272 }]) kk kk ?_
 intro f hf;simp only[List.mem_cons,List.not_mem_nil,or_false]at hf;rcases hf with rfl|rfl|rfl|rfl|rfl
 · exact⟨[some .i64],part_int (k:=.i64) kk,app_get (A:=[]) rfl⟩
 · exact⟨k40,part_agg (same40 d) (isAgg_of kk) (sizeOf_of kk),app_get (A:=[some .i64]) rfl⟩
 · exact⟨k41,part_agg (same41 (d+2)) (isAgg_of kk) (sizeOf_of kk),app_get (A:=[some .i64]++k40) (C:=[some .i64]++k43) rfl⟩
 · exact⟨[some .i64],part_int (k:=.i64) kk,app_get (A:=[some .i64]++k40++k41) (C:=k43) rfl⟩
 exact⟨k43,part_agg (same43 (d+2)) (isAgg_of kk) (sizeOf_of kk),app_get (A:=[some .i64]++k40++k41 ++ [some .i64]) (C:=[]) rfl⟩
theorem fits_ints(h:l.length=n):FitsAt (ints k l).toArray 0 (List.replicate n (some k)):=by
 intro i k' hk;have hi:i<n:=by have:=(List.getElem?_eq_some_iff.1 hk).1;simpa using this
 simp only[List.getElem?_replicate,if_pos hi,Option.some.injEq]at hk;subst hk;exact⟨l[i]'o_,by simp[ints,show i<l.length by omega]⟩
theorem neq43{m:List Int}(hl:l.length=32)(hm:m.length=32)(w:World):∃q,(binOp .neq 43 (.agg (ints .u8 l).toArray) (.agg (ints .u8 m).toArray)).run prog w=.ok (.bool q) w/\(l=m->q=false):=by
 obtain⟨r,h1,h2⟩:=same43 9998 w _ _ (fits_ints (k:=.u8) hl) (fits_ints (k:=.u8) hm);refine⟨!r,?_,fun e=>by rw[h2 (by rw[e])];rfl⟩;rw[run_neq_struct,h1];rfl
theorem eql43{m:List Int}(hl:l.length=32)(hm:m.length=32)(w:World):∃q,(binOp .eql 43 (.agg (ints .u8 l).toArray) (.agg (ints .u8 m).toArray)).run prog w=.ok (.bool q) w/\(l=m->q=true):=by
 obtain⟨r,h1,h2⟩:=same43 9998 w _ _ (fits_ints (k:=.u8) hl) (fits_ints (k:=.u8) hm);refine⟨r,?_,fun e=>h2 (by rw[e])⟩;rw[run_eql_struct,h1];rfl
theorem fits_vw{k:Int}{t:List Int}(h:VwOk t ad ch):FitsAt (vw e t ad k ch).toArray 0 k45:=by
 have key:∀{A:List Value} {K:List (Option IntKind)},(A.length=K.length/\∀(i:Nat) (k:Option IntKind),K[i]? = some k->okk k A[i]?)->∀{A':List Value} {K':List (Option IntKind)},(A'.length=K'.length/\∀(i:Nat) (k:Option IntKind),K'[i]? = some k->okk k A'[i]?)->((A++A').length=(K++K').length/\∀(i:Nat) (k:Option IntKind),(K++K')[i]? = some k->okk k (A++A')[i]?):=by
  intro A K ⟨h1,h2⟩ A' K' ⟨h3,h4⟩;refine⟨by simp[h1,h3],fun i k hk=>?_⟩;by_cases hi:i<K.length
  · rw[List.getElem?_append_left hi]at hk;rw[List.getElem?_append_left o_];exact h2 i k hk
  rw[List.getElem?_append_right o_]at hk;rw[List.getElem?_append_right o_,h1];exact h4 _ k hk
 have one:∀z:Int,([Value.int .i64 z].length=[some IntKind.i64].length/\∀(i:Nat) (k:Option IntKind),[some IntKind.i64][i]? = some k->okk k [Value.int .i64 z][i]?):=by
  intro z;refine⟨rfl,fun i k hk=>?_⟩
  match i,hk with
  | 0,hk=>simp at hk;subst hk;exact⟨z,rfl⟩
  | i+1,hk=>simp at hk
 have li:∀{k:IntKind} {l:List Int} {n:Nat},l.length=n->((ints k l).length=(List.replicate n (some k)).length/\∀(i:Nat) (k':Option IntKind),(List.replicate n (some k))[i]? = some k'->okk k' (ints k l)[i]?):=by intro k l n hl;exact⟨by simp[ints_len,hl],fun i k' hk=>by simpa using fits_ints (k:=k) hl i k' hk⟩
 have lb:ad.length=8->((bools ad).length=k41.length/\∀(i:Nat) (k':Option IntKind),k41[i]? = some k'->okk k' (bools ad)[i]?):=by
  intro hl;refine⟨by simp[bools_len,hl,k41],fun i k' hk=>?_⟩;have hi:i<8:=by have:=(List.getElem?_eq_some_iff.1 hk).1;simpa[k41] using this
  simp only[k41,List.getElem?_replicate,if_pos hi,Option.some.injEq]at hk;subst hk;exact⟨ad[i]'o_,by simp[bools,show i<ad.length by omega]⟩
 have all:=key (one e) (key (li (k:=.i64) h.tree) (key (lb h.admins) (key (one k) (li (k:=.u8) h.chain))));intro i k' hk;have:=all.2 i k' hk;simpa[vw] using this
theorem neq45{k e' k':Int}{t t' ch':List Int}{ad':List Bool}(h:VwOk t ad ch)(h':VwOk t' ad' ch')(w:World):∃q,(binOp .neq 45 (.agg (vw e t ad k ch).toArray) (.agg (vw e' t' ad' k' ch').toArray)).run prog w=.ok (.bool q) w/\(vw e t ad k ch=vw e' t' ad' k' ch'->q=false):=by
 obtain⟨r,h1,h2⟩:=same45 9995 w _ _ (fits_vw (e:=e) (k:=k) h) (fits_vw (e:=e') (k:=k') h');refine⟨!r,?_,fun e=>by rw[h2 (by rw[e])];rfl⟩;rw[run_neq_struct,h1];rfl
theorem wpList_cmp{Q:Exit->Act->World->Prop}(hgd:o.guard=none)(op:BinOp)(t u:TypeId)(x y:Operand)(ho:o.op=.binOp op t x y u)(xs ys:Array Value)(v:Value)(hx:a.eval x=.agg xs)(hy:a.eval y=.agg ys)(hm:prog.eqGuardType prog.depth t=false)(hrun:(binOp op t (.agg xs) (.agg ys)).run prog w=.ok v w)(h:wpList prog ops Q rest (a.put o.dst v) w):wpList prog ops Q (o :: rest) a w:=by
 refine wpList_plain hgd fun K hK=>?_;unfold Oper.wp execOp;simp only[ho,hx,hy,Sem.run_bind,run_eqGuard_agg w op t x y xs ys hm,hrun,Result.andThen_ok];exact hK _ _ h
theorem gd43:prog.eqGuardType prog.depth 43=false:=by kernel_rfl
theorem gd45:prog.eqGuardType prog.depth 45=false:=by kernel_rfl
end Go.Proofs.YtppjnahcnofokaaGreat.T
namespace Go.Proofs.YtppjnahcnofokaaGreat.T
open Go.RowKit Go.Proofs.YtppjnahcnofokaaGreatW.PrintLast
open Go.Proofs.Tryz
variable{k:IntKind}{a:Act}{b i n B base m fuel D B':Nat}{l ch:List Int}{w w' w1 w2:World}{t:TypeId}{P:Program}{cs xs vs l3:List Value}{A A':Option Addr}{o oi:Oper}{e s f st fl:Int}{ops:Array Oper}{rest l0:List Oper}{v:Value}{r:Option Nat}{rs rs2:List (Option Addr×Nat×Nat×List Int)}{E:Prop}{ad ai go:List Bool}{N:Act->Prop}{place:Nat->Option (Nat×Nat)}{bad:Bool}{es es':List (Int×List Int)}{T:List TypeId}
theorem CmOk.ops'{x:CmP}(h:CmOk w x):∃A n c l,x.O=.slice A n c/\OpsR w A n c l/\n<=4:=h.ops
theorem BoX.cell(h:BoX w b)(i:Nat)(hi:i<8):∃q,w.cell? ⟨b,i,none⟩=some (.bool q):=by
 obtain⟨l,hl,h⟩:=h;exact⟨l[i]'o_,(h.cell i).trans (by simp[bools,show i<l.length by omega])⟩
theorem cm_trange{x:CmP}(h:Cel w b 130 (cmC x)):w.rangeAt b 9 (ints .u8 x.tag):=by
 have:=Cel.range (w:=w) (b:=b) (t:=130) (by have:=h;rwa [cm_tsplit]at this);exact this
def PcR(w:World)(x:PyP)(r:Ending)(w':World):Prop:=∃p z,r=.returned (.tuple #[.pointer p,.int .i64 z])/\∀a,p=some a->∃b2 x2,a=⟨b2,0,none⟩/\w.heap.size<=b2/\Cel w' b2 82 (pyC x2)/\PyOk x2/\x2.e=wrap64 (x.e+1)/\x2.G=x.G/\x2.lf=x.lf
theorem process_any(b:Nat)(x:PyP)(y:CmP)(w:World)(hc:Cel w b 82 (pyC x))(hok:PyOk x)(hy:CmOk w y):Calls prog 73 #[.pointer (some ⟨b,0,none⟩),.agg (cmC y).toArray] w fun r w'=>PcR w x r w'/\Bl w w':=by
 obtain⟨w1,hW⟩:=ex_ (w.alloc (.cells (cmC y).toArray 130));have hb1:=nb_ hW;have HB1:=hd_ hb1;have HY1:Hid (Cel w1 w.heap.size 130 (cmC y)):=by rw[hW];exact Cel.new _ rfl rfl
 have HC0:=hd_ hc;have HM0:=hd_ hy;have HOk:=hd_ hok;have HT:=hd_ hy.tag;have hHI:=hd_ (cm_hi (x:=y) hy.tag);have hVI:Hid ((prog.info? 45).map (·.size)=some (vw x.e x.t x.ad x.k x.ch).length):=vw_hi hok.vw;obtain⟨mm,hmm⟩:=Int.eq_ofNat_of_zero_le hok.lf.1;have hm8:mm<8:=by have:=hok.lf.2;omega
 have hmi:(mm:Int)<8:=by omega
 have HMM:=hd_ hmm;obtain⟨EP,hEP⟩:=ex_ (wrap64 (x.e+1));have HEP:=hd_ hEP;have HW:=hd_ hW;have hbw:b<w.heap.size:=hc.lt;clear hW hb1 hc hok hy hmm hEP;go_enter func73,ntmps73
 go_wp2_with ((change wpList _ _ _ _ _ (w.alloc (.cells (cmC y).toArray 130)));rw[<-HW.out];refine wpList_load_mid rfl 130 (.tmp 3) rr w.heap.size 0 rr (cmC y) _ HY1.out.all underlying130 rfl hHI.out ?_);refine(taken_any b x y w1 (HC0.out.below HB1.out hbw) HOk.out (HM0.out.below HB1.out)).mono ?_;rintro _ w2 ⟨⟨z,rfl,hz⟩,hb⟩;have HY2:=hd_ (HY1.out.below hb HY1.out.lt);have HB2:=tb_ HB1 hb;clear hb;by_cases hz0:z=0;rotate_left
 · clear hz;go_wp2_with fail;refine bodyPost_ret (v:=.tuple #[.pointer none,.int .i64 z]) (by simp[results,results73,asAddr,Act.put]) rfl ⟨⟨_,_,rfl,fun _ h=>by cases h⟩,HB2.out⟩
 subst hz0;obtain⟨hf0,hf8⟩:=hz rfl;have HF0:=hd_ hf0;have HF8:=hd_ hf8;obtain⟨-,⟨AO,nO,cO,lO,eO,hO,hnO⟩,-,⟨AX,nX,cX,eX,-,-⟩⟩:=HM0.out;have HO0:=hd_ hO;have EO:=hd_ eO;have EX:=hd_ eX;clear hz hf0 hf8 hO eO eX;go_wp2_with fail;refine pr_ 0 21 (bt 21 0) fun w1d hw1d=>?_;refine mG ?_;have HY:Hid (Cel w1d w.heap.size 130 (cmC y)):=by rw[<-hw1d];exact HY2.out.drew
 have HB:Hid (Bl w w1d):=by rw[<-hw1d];exact HB2.out.drew
 clear hw1d HY2 HB2 HY1 HB1 HW;refine wpAny_of_last (S:=fun w'=>w'.cell? ⟨w.heap.size,1,none⟩=some (.int .i64 y.f)/\w'.cell? ⟨w.heap.size,2,none⟩=some (.slice AO nO cO)/\Hid (Cel w' b 82 (pyC x))) (ds:=[17,18,19,20]) _ _ _ _ ?_;have hH:(fun w'=>w'.cell? ⟨w.heap.size,1,none⟩=some (.int .i64 y.f)/\w'.cell? ⟨w.heap.size,2,none⟩=some (.slice AO nO cO)/\Hid (Cel w' b 82 (pyC x))) w1d:=⟨(HY.out.cell 1).trans rfl,(HY.out.cell 2).trans (by show some y.O=_;rw[EO.out]),HC0.out.below HB.out hbw⟩;refine ts_ 0 8 13 (bt 21 255) hH ?_;refine mD ?_;repeat (first|(refine tk_ 45 (.tmp 28) b 0 ((vw x.e x.t x.ad x.k x.ch)) (fun _ h=>py_rg0 HOk.out h.2.2.out) underlying45 rfl hVI.out ?_)|(refine uA ?_)|(refine mB3 ?_))
 refine takes_nil ?_;clear hH;refine join_ (σ:=Int×Int×List Int×List Bool×Int×List Int×List Bool×List Bool×Nat×Nat×Nat) 4 (bt 21 131071) (fun s=>match s with|(z,e2,t2,ad2,k2,ch2,ai,go,b14,b15,b16)=>[(34,.tuple #[.agg (vw e2 t2 ad2 k2 ch2).toArray,.agg (bools ai).toArray,.agg (bools go).toArray,.int .i64 z]),(25,.tuple #[.agg (vw e2 t2 ad2 k2 ch2).toArray,.agg (bools ai).toArray,.agg (bools go).toArray,.int .i64 z]),(35,.agg (vw e2 t2 ad2 k2 ch2).toArray),(36,.agg (bools ai).toArray),(37,.agg (bools go).toArray),(38,.int .i64 z),(7,.pointer (some ⟨b14,0,none⟩)),(8,.pointer (some ⟨b15,0,none⟩)),(9,.pointer (some ⟨b16,0,none⟩))]) (fun s w'=>match s with|(z,e2,t2,ad2,k2,ch2,ai,go,b14,b15,b16)=>Hid (Cel w' w.heap.size 130 (cmC y))/\Hid (Bl w w')/\Hid (VwOk t2 ad2 ch2/\ai.length=8/\go.length=8/\(z=0->e2=x.e))/\Hid (Cel w' b14 45 zvw)/\Hid (w.heap.size<=b14/\b≠b14/\w.heap.size≠b14)/\Hid (BoX w' b15)/\Hid (w.heap.size<=b15/\b≠b15/\w.heap.size≠b15)/\Hid (BoX w' b16)/\Hid (w.heap.size<=b16/\b≠b16/\w.heap.size≠b16)) ?_ (fun st0=>?_)
 · rintro⟨z,e2,t2,ad2,k2,ch2,ai,go,b14,b15,b16⟩ wc ⟨HY,HB,HR,HA,HAb,HE,HEb,HF,HFb⟩;refine mE ?_;have hH:=trivial;refine tl_ 17 ?_;refine mF ?_;obtain⟨hv2,hai,hgo,hzz⟩:=HR.out;have HV2:=hd_ hv2;have HZZ:=hd_ hzz;obtain⟨lE,hlE,cE⟩:=HE.out;have nEA:b14≠b15:=HE.out.ne HA.out;have nFA:b14≠b16:=HF.out.ne HA.out;have bA:=HAb.out;have bE:=HEb.out;have bF:=HFb.out;clear hH hv2 hzz;refine store_cel rfl 45 (.tmp 7) (.tmp 35) rr b14 0 45 [] (zvw) [] ((vw e2 t2 ad2 k2 ch2)) rr rr (by simpa using HA.out) rfl (by rw[show zvw.length=73 from vw_len zvOk,vw_len HV2.out]) (vw_hi HV2.out) (all_oneCell_toArray (vw_all _ _ _ _ _)) ?_;intro w3 hS1 hG1;have HA3:Hid (Cel w3 b14 45 (vw e2 t2 ad2 k2 ch2)):=hd_ (by simpa using hS1);have HE3:=hd_ (HE.out.grown hG1 s1_);have HF3:=hd_ (HF.out.grown hG1 s1_);have HY3:=hd_ (HY.out.grown hG1 s1_);have HB3:=hd_ (HB.out.grown hG1 HB.out.size (fun k hk=>by cases hk;omega));clear hS1 hG1 HA HE HF HY HB cE;obtain⟨lE,hlE,cE⟩:=HE3.out;refine store_cel rfl 41 (.tmp 8) (.tmp 36) rr b15 0 41 [] (bools lE) [] (bools ai) rr rr (by simpa using cE) rfl (by rw[bools_len,bools_len,hlE,hai]) (hi41 hai) (all_bools _) ?_;intro w4 hS2 hG2;have HE4:Hid (BoX w4 b15):=⟨ai,hai,by simpa using hS2⟩;have HF4:=hd_ (HF3.out.put hG2 HE4.out);have HA4:=hd_ (HA3.out.grown hG2 s1_);have HY4:=hd_ (HY3.out.grown hG2 s1_);have HB4:=hd_ (HB3.out.grown hG2 HB3.out.size (fun k hk=>by cases hk;omega));clear hS2 hG2 HA3 HE3 HF3 HY3 HB3 cE hlE;obtain⟨lF,hlF,cF⟩:=HF4.out;refine store_cel rfl 41 (.tmp 9) (.tmp 37) rr b16 0 41 [] (bools lF) [] (bools go) rr rr (by simpa using cF) rfl (by rw[bools_len,bools_len,hlF,hgo]) (hi41 hgo) (all_bools _) ?_;intro w5 hS3 hG3;have HF5:Hid (BoX w5 b16):=⟨go,hgo,by simpa using hS3⟩;have HE5:=hd_ (HE4.out.put hG3 HF5.out);have HA5:=hd_ (HA4.out.grown hG3 s1_);have HY5:=hd_ (HY4.out.grown hG3 s1_);have HB5:=hd_ (HB4.out.grown hG3 HB4.out.size (fun k hk=>by cases hk;omega));clear hS3 hG3 HA4 HE4 HF4 HY4 HB4 cF hlF;by_cases hz0:z=0;rotate_left;(· go_wp2_with fail;refine bodyPost_ret (v:=.tuple #[.pointer none,.int .i64 z]) (by simp[results,results73,asAddr,Act.put]) rfl ⟨⟨_,_,rfl,fun _ h=>by cases h⟩,HB5.out⟩);subst hz0;obtain rfl:=HZZ.out rfl;obtain⟨q,kq⟩:=HF5.out.cell mm hm8;have HC5:=HC0.out.below HB5.out hbw;have k73:w5.cell? ⟨b,73,none⟩=some (.int .i64 mm):=(HC5.cell 73).trans ((py_lf HOk.out).trans (by rw[HMM.out]));have k0:w5.cell? ⟨b,0,none⟩=some (.int .i64 x.e):=(py_rg0 HOk.out HC5) 0 _ rfl;clear HC5
   cases q with
   | true=>
    go_wp2_with fail;refine bodyPost_ret (v:=.tuple #[.pointer none,.int .i64 0]) (by simp[results,results73,asAddr,Act.put]) rfl ⟨⟨_,_,rfl,fun _ h=>by cases h⟩,HB5.out⟩
   | false=>
    by_cases hE:1099511627776<=x.e
    · go_wp2_with fail;refine bodyPost_ret (v:=.tuple #[.pointer none,.int .i64 12]) (by simp[results,results73,asAddr,Act.put]) rfl ⟨⟨_,_,rfl,fun _ h=>by cases h⟩,HB5.out⟩
    · go_wp2_with (refine wpList_load_mid rfl 130 (.tmp 3) rr w.heap.size 0 rr (cmC y) _ HY5.out.all underlying130 rfl hHI.out ?_);refine(areKeys_any y w5 HT.out).mono ?_;rintro _ w6 ⟨⟨q,rfl⟩,hb⟩;have HY6:=hd_ (HY5.out.below hb HY5.out.lt);have HB6:=tb_ HB5 hb;have HA6:=hd_ (HA5.out.below hb HA5.out.lt);have HE6:=hd_ (HE5.out.below hb);clear hb k73 k0 kq
      cases q with
      | false=>
       go_wp2_with fail;refine bodyPost_ret (v:=.tuple #[.pointer none,.int .i64 10]) (by simp[results,results73,asAddr,Act.put]) rfl ⟨⟨_,_,rfl,fun _ h=>by cases h⟩,HB6.out⟩
      | true=>
       go_wp2_with (first|(refine wpList_load_mid rfl 45 (.tmp 7) rr b14 0 rr (vw x.e t2 ad2 k2 ch2) _ HA6.out.all underlying45 rfl (vw_hi HV2.out) ?_)|(refine wpList_load_mid rfl 130 (.tmp 3) rr w.heap.size 0 rr (cmC y) _ HY6.out.all underlying130 rfl hHI.out ?_))
       refine(keyed_any x.e k2 t2 ch2 ad2 y w6 HV2.out HT.out ⟨HF0.out,HF8.out⟩).mono ?_
       rintro _ w7 ⟨⟨t3,ht3,rfl⟩,hb⟩
       have HY7:=hd_ (HY6.out.below hb HY6.out.lt)
       have HB7:=tb_ HB6 hb
       have HA7:=hd_ (HA6.out.below hb HA6.out.lt)
       have HE7:=hd_ (HE6.out.below hb)
       have HV3:Hid (VwOk t3 ad2 ch2):=⟨ht3,HV2.out.admins,HV2.out.chain⟩
       clear hb ht3
       rw[<-HEP.out]
       have k1:w7.cell? ⟨w.heap.size,1,none⟩=some (.int .i64 y.f):=(HY7.out.cell 1).trans rfl
       have k8:w7.cell? ⟨w.heap.size,8,none⟩=some (.slice AX nX cX):=(HY7.out.cell 8).trans (by show some y.X=_;rw[EX.out])
       obtain⟨lE,hlE,cE⟩:=HE7.out
       have HLE:=hd_ hlE
       have HCE:=hd_ cE
       clear hlE cE
       go_wp2_with (first
        | (refine store_cel rfl 45 (.tmp 7) (.tmp 63) rr b14 0 45 [] (vw x.e t2 ad2 k2 ch2) [] (vw EP t3 ad2 k2 ch2) rr rr (by simpa using HA7.out) rfl (by rw[vw_len HV2.out,vw_len HV3.out]) (vw_hi HV3.out) (all_oneCell_toArray (vw_all _ _ _ _ _)) ?_
           intro w8 hS hG
           have HA8:Hid (Cel w8 b14 45 (vw EP t3 ad2 k2 ch2)):=hd_ (by simpa using hS)
           have HY8:=hd_ (HY7.out.grown hG s1_)
           have HB8:=hd_ (HB7.out.grown hG HB7.out.size (fun k hk=>by cases hk;omega))
           have HE8:Hid (Cel w8 b15 41 (bools lE)):=HCE.out.grown hG s1_
           have k1:=hG.cell k1 s1_
           have k8:=hG.cell k8 s1_
           clear hS hG HA7 HB7 HY7)
        | (refine wpList_load_mid rfl 40 (.tmp 64) rr b14 1 rr (ints .i64 t3) _ (vw_trange HV3.out HA8.out) underlying40 rfl (hi40 HV3.out.tree).out ?_)
        | (refine wpList_load_mid rfl 41 (.tmp 8) rr b15 0 rr (bools lE) _ HE8.out.all underlying41 rfl (hi41 HLE.out) ?_))
       refine(plan_any t3 y.f lE w8 HV3.out.tree HLE.out).mono ?_
       rintro _ w9 ⟨⟨A,m,c,l,rfl,hm24,hrg,hprs⟩,hb⟩
       have HY9:=hd_ (HY8.out.below hb HY8.out.lt)
       have HB9:=tb_ HB8 hb
       have HA9:=hd_ (HA8.out.below hb HA8.out.lt)
       have k8:=(hb.cell (p:=⟨w.heap.size,8,none⟩) (by show w.heap.size<_;exact HY8.out.lt)).trans k8
       have HRg:=hd_ hrg
       have HPrs:=hd_ hprs
       clear hb k1 hrg hprs HE8 HCE
       by_cases hmX:m=nX
       rotate_left
       · (have hmXi:¬(m:Int)=(nX:Int):=by omega);go_wp2_with fail;refine bodyPost_ret (v:=.tuple #[.pointer none,.int .i64 10]) (by simp[results,results73,asAddr,Act.put]) rfl ⟨⟨_,_,rfl,fun _ h=>by cases h⟩,HB9.out⟩
       subst hmX
       go_wp2_with (refine wpList_load_mid rfl 130 (.tmp 3) rr w.heap.size 0 rr (cmC y) _ HY9.out.all underlying130 rfl hHI.out ?_)
       clear k8
       refine(opened_any b x y A m c l AX cX w9 (HC0.out.below HB9.out hbw) HOk.out (HM0.out.below HB9.out) EX.out HRg.out HPrs.out).mono ?_
       rintro _ wa ⟨⟨lh,pl,pe,hlh,rfl⟩,hb⟩
       have HYa:=hd_ (HY9.out.below hb HY9.out.lt)
       have HBa:=tb_ HB9 hb
       have HAa:=hd_ (HA9.out.below hb HA9.out.lt)
       have HLh:=hd_ hlh
       have HZa:Hid (Row (wa.alloc (.cells (ints .u8 zl).toArray 43)) wa.heap.size .u8 43 32):=Row.new zl _ rfl rfl
       have HYb:=hd_ (HYa.out.alloc (.cells (ints .u8 zl).toArray 43))
       have HAb:=hd_ (HAa.out.alloc (.cells (ints .u8 zl).toArray 43))
       have HBb:=hd_ (HBa.out.alloc HBa.out.size (.cells (ints .u8 zl).toArray 43))
       have hbs:=HBa.out.size
       have hya:=HYa.out.lt
       have haa:=HAa.out.lt
       clear hb hlh HRg HPrs HYa HAa HBa
       by_cases hpe:pe=0
       rotate_left
       · go_wp2_with (refine store_blk rfl 43 (.tmp 12) (.tmp 81) rr wa.heap.size .u8 lh rr rr HZa.out HLh.out (by show _=_;rw[HLh.out];exact info43) ?_
                      intro wd hS hG
                      have HPd:=hd_ hS
                      have HYd:=hd_ (HYb.out.grown hG s1_)
                      have HAd:=hd_ (HAb.out.grown hG s1_)
                      have HBd:=hd_ (HBb.out.grown hG HBb.out.size (fun k hk=>by cases hk;omega))
                      clear hS hG HYb HAb HBb HZa)
         refine bodyPost_ret (v:=.tuple #[.pointer none,.int .i64 pe]) (by simp[results,results73,asAddr,Act.put]) rfl ⟨⟨_,_,rfl,fun _ h=>by cases h⟩,HBd.out⟩
       subst hpe
       go_wp2_with (refine store_blk rfl 43 (.tmp 12) (.tmp 81) rr wa.heap.size .u8 lh rr rr HZa.out HLh.out (by show _=_;rw[HLh.out];exact info43) ?_
                    intro wd hS hG
                    have HPd:=hd_ hS
                    have HYd:=hd_ (HYb.out.grown hG s1_)
                    have HAd:=hd_ (HAb.out.grown hG s1_)
                    have HBd:=hd_ (HBb.out.grown hG HBb.out.size (fun k hk=>by cases hk;omega))
                    clear hS hG HYb HAb HBb HZa)
       refine(copy_any b x wd (HC0.out.below HBd.out hbw) HOk.out).mono ?_
       rintro _ we ⟨rfl,hcp,hb⟩
       obtain⟨b2,hb2⟩:=ex_ (wd.heap.size)
       rw[<-hb2]at hcp ⊢
       have l1:w.heap.size<b2:=by rw[hb2];exact HYd.out.lt
       have l2:b14<b2:=by rw[hb2];exact HAd.out.lt
       have l3:wa.heap.size<b2:=by rw[hb2];exact HPd.out.lt
       have HYe:=hd_ (HYd.out.below hb HYd.out.lt)
       have HBe:=tb_ HBd hb
       have HAe:=hd_ (HAd.out.below hb HAd.out.lt)
       have HPe:=hd_ (HPd.out.below hb HPd.out.lt)
       have HDe:=hd_ hcp
       clear hb hb2 hcp HYd HBd HAd HPd
       go_wp2_with (first
        | (refine wpList_load_mid rfl 43 (.tmp 12) rr wa.heap.size 0 rr (ints .u8 lh) _ HPe.out.range underlying43 rfl (hi43 HLh.out).out ?_)
        | (refine wpList_load_mid rfl 45 (.tmp 7) rr b14 0 rr (vw EP t3 ad2 k2 ch2) _ HAe.out.all underlying45 rfl (vw_hi HV3.out) ?_))
       refine(learns_any b2 x lh pl EP k2 t3 ch2 ad2 we HDe.out HOk.out HLh.out HV3.out).mono ?_
       rintro _ wf ⟨⟨lq,q,hlq,rfl⟩,⟨nd,hs,hnd,hhs,hcf⟩,hG⟩
       have HLq:=hd_ hlq
       have HDf:=hd_ hcf
       have HOk2:Hid (PyOk ((x.snd nd).shs hs)):=(HOk.out.snd hnd).shs hhs
       have HYf:=hd_ ((HYe.out.grown hG s1_).alloc (.cells (ints .u8 zl).toArray 43))
       have HAf:=hd_ ((HAe.out.grown hG s1_).alloc (.cells (ints .u8 zl).toArray 43))
       have HDg:=hd_ (HDf.out.alloc (.cells (ints .u8 zl).toArray 43))
       have hBf:Bl w wf:=HBe.out.grown hG HBe.out.size (fun k hk=>by cases hk;omega)
       have HBf:=hd_ (hBf.alloc hBf.size (.cells (ints .u8 zl).toArray 43))
       have HZf:Hid (Row (wf.alloc (.cells (ints .u8 zl).toArray 43)) wf.heap.size .u8 43 32):=Row.new zl _ rfl rfl
       have l4:b2<wf.heap.size:=HDf.out.lt
       have l5:=HBe.out.size
       clear hG hlq hcf hBf HYe HAe HDe HPe hnd hhs HDf
       cases q with
       | false=>
        go_wp2_with (refine store_blk rfl 43 (.tmp 15) (.tmp 95) rr wf.heap.size .u8 lq rr rr HZf.out HLq.out (by show _=_;rw[HLq.out];exact info43) ?_
                     intro wg hS hG
                     have HQg:Hid (Blk wg wf.heap.size .u8 43 lq):=hS
                     have HYg:=hd_ (HYf.out.grown hG s1_)
                     have HAg:=hd_ (HAf.out.grown hG s1_)
                     have HDh:=hd_ (HDg.out.grown hG s1_)
                     have HBg:=hd_ (HBf.out.grown hG HBf.out.size (fun k hk=>by cases hk;omega))
                     clear hS hG HYf HAf HDg HBf HBe HZf)
        refine bodyPost_ret (v:=.tuple #[.pointer none,.int .i64 10]) (by simp[results,results73,asAddr,Act.put]) rfl ⟨⟨_,_,rfl,fun _ h=>by cases h⟩,HBg.out⟩
       | true=>
        go_wp2_with (refine store_blk rfl 43 (.tmp 15) (.tmp 95) rr wf.heap.size .u8 lq rr rr HZf.out HLq.out (by show _=_;rw[HLq.out];exact info43) ?_
                     intro wg hS hG
                     have HQg:Hid (Blk wg wf.heap.size .u8 43 lq):=hS
                     have HYg:=hd_ (HYf.out.grown hG s1_)
                     have HAg:=hd_ (HAf.out.grown hG s1_)
                     have HDh:=hd_ (HDg.out.grown hG s1_)
                     have HBg:=hd_ (HBf.out.grown hG HBf.out.size (fun k hk=>by cases hk;omega))
                     clear hS hG HYf HAf HDg HBf HBe HZf)
        refine pr_ 0 8 (bt 8 0) fun w1d hw1d=>?_
        refine mG ?_
        have hCd:Hid (Cel w1d b 82 (pyC x)):=by rw[<-hw1d];exact(HC0.out.below HBg.out hbw).drew
        have hYd:Hid (Cel w1d w.heap.size 130 (cmC y)):=by rw[<-hw1d];exact HYg.out.drew
        have hAd:Hid (Cel w1d b14 45 (vw EP t3 ad2 k2 ch2)):=by rw[<-hw1d];exact HAg.out.drew
        have hQd:Hid (Blk w1d wf.heap.size .u8 43 lq):=by rw[<-hw1d];exact HQg.out.drew
        have hDd:Hid (Cel w1d b2 82 (pyC ((x.snd nd).shs hs))):=by rw[<-hw1d];exact HDh.out.drew
        have hBd:Hid (Bl w w1d):=by rw[<-hw1d];exact HBg.out.drew
        have hH:(fun w'=>Hid (Cel w' b 82 (pyC x))/\Hid (Cel w' w.heap.size 130 (cmC y))/\Hid (Cel w' b14 45 (vw EP t3 ad2 k2 ch2))/\Hid (Blk w' wf.heap.size .u8 43 lq)) w1d:=⟨hCd,hYd,hAd,hQd⟩
        clear hw1d HYg HAg HQg HDh HBg
        refine wpAny_of_last (S:=fun w'=>Hid (Cel w' b 82 (pyC x))/\Hid (Cel w' w.heap.size 130 (cmC y))/\Hid (Cel w' b14 45 (vw EP t3 ad2 k2 ch2))/\Hid (Blk w' wf.heap.size .u8 43 lq)) (ds:=[7]) _ _ _ _ ?_
        refine ts_ 0 5 3 (bt 8 31) hH ?_
        refine mD ?_
        repeat (first|(refine tk_ 45 (.tmp 101) b 0 ((vw x.e x.t x.ad x.k x.ch)) (fun _ h=>py_rg0 HOk.out h.1.out) underlying45 rfl hVI.out ?_)|(refine tk_ 130 (.tmp 3) w.heap.size 0 (cmC y) (fun _ h=>h.2.1.out.all) underlying130 rfl hHI.out ?_)|(refine uA ?_)|(refine mB4 ?_))
        refine takes_nil ?_
        refine one_ (i:=5) (N:=some 104) (bt 8 63) rfl rfl kk dd (fun K hK=>?_)
        refine goes_ func104 kk rfl #[.agg (vw x.e x.t x.ad x.k x.ch).toArray,.agg (cmC y).toArray] rr rfl rfl mL ?_
        refine(chained_any x.e x.k x.t x.ch x.ad y _ HOk.out.vw (HM0.out.below hBd.out)).mono ?_
        rintro _ wx ⟨⟨lc,hlc,rfl⟩,hb⟩
        refine⟨_,rfl,?_⟩
        have HLc:=hd_ hlc
        have hCx:=hd_ (hCd.out.below hb hCd.out.lt)
        have hYx:=hd_ (hYd.out.below hb hYd.out.lt)
        have hAx:=hd_ (hAd.out.below hb hAd.out.lt)
        have hQx:=hd_ (hQd.out.below hb hQd.out.lt)
        have hDx:=hd_ (hDd.out.below hb hDd.out.lt)
        have hBx:=tb_ hBd hb
        refine hK.out _ _ ⟨hCx,hYx,hAx,hQx⟩ (fun hH=>?_)
        clear hK K hb hlc hCd hYd hAd hQd hDd hBd
        refine mN ?_
        refine ts_ 6 1 1 (bt 8 127) hH ?_
        refine mD ?_
        repeat (first|(refine tk_ 45 (.tmp 101) b 0 ((vw x.e x.t x.ad x.k x.ch)) (fun _ h=>py_rg0 HOk.out h.1.out) underlying45 rfl hVI.out ?_)|(refine tk_ 130 (.tmp 3) w.heap.size 0 (cmC y) (fun _ h=>h.2.1.out.all) underlying130 rfl hHI.out ?_)|(refine uA ?_)|(refine mB4 ?_))
        refine takes_nil ?_
        refine tl_ 7 ?_
        refine mF ?_
        clear hH
        have HV4:Hid (VwOk t3 ad2 lc):=⟨HV3.out.tree,HV3.out.admins,HLc.out⟩
        go_wp2_with (refine store_cel rfl 43 (.tmp 105) (.tmp 104) rr b14 41 45 ([.int .i64 EP]++(ints .i64 t3++(bools ad2 ++ [.int .i64 k2]))) (ints .u8 ch2) [] (ints .u8 lc) rr rr (by have:=hAx.out;rwa [vw_csplit]at this) (by simp[ints_len,bools_len,HV3.out.tree,HV3.out.admins]) (by rw[ints_len,ints_len,HLc.out,HV3.out.chain]) (hi43 HLc.out).out (all_ints _ _) ?_
                     intro wy hS hG
                     have HAy:Hid (Cel wy b14 45 (vw EP t3 ad2 k2 lc)):=hd_ (by rw[vw_csplit];exact hS)
                     have HYy:=hd_ (hYx.out.grown hG s1_)
                     have HQy:=hd_ (hQx.out.grown hG s1_)
                     have HDy:=hd_ (hDx.out.grown hG s1_)
                     have HBy:=hd_ (hBx.out.grown hG hBx.out.size (fun k hk=>by cases hk;omega))
                     clear hS hG hCx hYx hAx hQx hDx hBx)
        refine pr_ 0 12 (bt 12 0) fun w1d hw1d=>?_
        refine mG ?_
        have hCd:Hid (Cel w1d b 82 (pyC x)):=by rw[<-hw1d];exact(HC0.out.below HBy.out hbw).drew
        have hYd:Hid (Cel w1d w.heap.size 130 (cmC y)):=by rw[<-hw1d];exact HYy.out.drew
        have hAd:Hid (Cel w1d b14 45 (vw EP t3 ad2 k2 lc)):=by rw[<-hw1d];exact HAy.out.drew
        have hQd:Hid (Blk w1d wf.heap.size .u8 43 lq):=by rw[<-hw1d];exact HQy.out.drew
        have hDd:Hid (Cel w1d b2 82 (pyC ((x.snd nd).shs hs))):=by rw[<-hw1d];exact HDy.out.drew
        have hBd:Hid (Bl w w1d):=by rw[<-hw1d];exact HBy.out.drew
        have hH:(fun w'=>Hid (Cel w' b 82 (pyC x))/\Hid (Cel w' w.heap.size 130 (cmC y))/\Hid (Cel w' b14 45 (vw EP t3 ad2 k2 lc))/\Hid (Blk w' wf.heap.size .u8 43 lq)) w1d:=⟨hCd,hYd,hAd,hQd⟩
        clear hw1d HYy HAy HQy HDy HBy
        refine wpAny_of_last (S:=fun w'=>Hid (Cel w' b 82 (pyC x))/\Hid (Cel w' w.heap.size 130 (cmC y))/\Hid (Cel w' b14 45 (vw EP t3 ad2 k2 lc))/\Hid (Blk w' wf.heap.size .u8 43 lq)) (ds:=[11]) _ _ _ _ ?_
        refine ts_ 0 7 5 (bt 12 127) hH ?_
        refine mD ?_
        repeat (first|(refine tk_ 45 (.tmp 7) b14 0 (vw EP t3 ad2 k2 lc) (fun _ h=>h.2.2.1.out.all) underlying45 rfl (vw_hi HV4.out) ?_)|(refine tk_ 43 (.tmp 110) b 238 (ints .u8 x.it) (fun _ h=>py_rg6 HOk.out h.1.out) underlying43 rfl (hi43 HOk.out.it).out ?_)|(refine tk_ 43 (.tmp 15) wf.heap.size 0 (ints .u8 lq) (fun _ h=>h.2.2.2.out.range) underlying43 rfl (hi43 HLq.out).out ?_)|(refine tk_ 43 (.tmp 115) w.heap.size 9 (ints .u8 y.tag) (fun _ h=>cm_trange h.2.1.out) underlying43 rfl (hi43 HT.out).out ?_)|(refine uA ?_)|(refine mB4 ?_))
        refine takes_nil ?_
        refine ts_ 9 2 3 (bt 12 1663) hH ?_
        refine mD ?_
        repeat (first|(refine tk_ 45 (.tmp 7) b14 0 (vw EP t3 ad2 k2 lc) (fun _ h=>h.2.2.1.out.all) underlying45 rfl (vw_hi HV4.out) ?_)|(refine tk_ 43 (.tmp 110) b 238 (ints .u8 x.it) (fun _ h=>py_rg6 HOk.out h.1.out) underlying43 rfl (hi43 HOk.out.it).out ?_)|(refine tk_ 43 (.tmp 15) wf.heap.size 0 (ints .u8 lq) (fun _ h=>h.2.2.2.out.range) underlying43 rfl (hi43 HLq.out).out ?_)|(refine tk_ 43 (.tmp 115) w.heap.size 9 (ints .u8 y.tag) (fun _ h=>cm_trange h.2.1.out) underlying43 rfl (hi43 HT.out).out ?_)|(refine uA ?_)|(refine mB4 ?_))
        refine takes_nil ?_
        refine one_ (i:=7) (N:=some 113) (bt 12 1791) rfl rfl kk dd (fun K hK=>?_)
        refine goes_ func105 kk rfl #[.agg (ints .u8 x.it).toArray,.agg (ints .u8 lq).toArray] rr rfl rfl mL ?_
        refine(joined_any x.it lq _ HOk.out.it HLq.out).mono ?_
        rintro _ wx ⟨⟨lj,hlj,rfl⟩,hb⟩
        refine⟨_,rfl,?_⟩
        have HLj:=hd_ hlj
        have hCx:=hd_ (hCd.out.below hb hCd.out.lt)
        have hYx:=hd_ (hYd.out.below hb hYd.out.lt)
        have hAx:=hd_ (hAd.out.below hb hAd.out.lt)
        have hQx:=hd_ (hQd.out.below hb hQd.out.lt)
        have hDx:=hd_ (hDd.out.below hb hDd.out.lt)
        have hBx:=tb_ hBd hb
        refine hK.out _ _ ⟨hCx,hYx,hAx,hQx⟩ (fun hH=>?_)
        clear hK K hb hlj hCd hYd hAd hQd hDd hBd
        refine mN ?_
        refine one_ (i:=8) (N:=some 114) (bt 12 2047) rfl rfl kk dd (fun K hK=>?_)
        refine goes_ func106 kk rfl #[.pointer (some ⟨b2,0,none⟩),.agg (vw EP t3 ad2 k2 lc).toArray,.agg (ints .u8 lj).toArray] rr rfl rfl mL ?_
        refine(enters_any b2 ((x.snd nd).shs hs) EP k2 t3 lc ad2 lj _ hDx.out HOk2.out HV4.out HLj.out).mono ?_
        rintro _ wz ⟨⟨le,hle,rfl⟩,⟨ep,it,hep,hit,hcz⟩,hG⟩
        refine⟨_,rfl,?_⟩
        have HLe:=hd_ hle
        have HDz:=hd_ hcz
        have HOk3:Hid (PyOk (((((x.snd nd).shs hs).set EP k2 t3 lc ad2).sep ep).sit it)):=((HOk2.out.set HV4.out).sep hep).sit hit
        have hCz:Hid (Cel wz b 82 (pyC x)):=hd_ (hCx.out.grown hG s1_)
        have hYz:=hd_ (hYx.out.grown hG s1_)
        have hAz:=hd_ (hAx.out.grown hG s1_)
        have hQz:=hd_ (hQx.out.grown hG s1_)
        have hBz:=hd_ (hBx.out.grown hG hBx.out.size (fun k hk=>by cases hk;omega))
        refine hK.out _ _ ⟨hCz,hYz,hAz,hQz⟩ (fun hH=>?_)
        clear hK K hG hle hcz hCx hYx hAx hQx hDx hBx hep hit
        refine mN ?_
        refine tl_ 11 ?_
        refine mF ?_
        clear hH
        obtain⟨q,hq,-⟩:=neq43 HLe.out HT.out wz
        cases q with
        | true=>
         go_wp2_with (refine wpList_cmp rfl .neq 43 43 (.tmp 114) (.tmp 116) rr _ _ _ rr rr gd43 hq ?_);refine bodyPost_ret (v:=.tuple #[.pointer none,.int .i64 11]) (by simp[results,results73,asAddr,Act.put]) rfl ⟨⟨_,_,rfl,fun _ h=>by cases h⟩,hBz.out⟩
        | false=>
         go_wp2_with (refine wpList_cmp rfl .neq 43 43 (.tmp 114) (.tmp 116) rr _ _ _ rr rr gd43 hq ?_);refine bodyPost_ret (v:=.tuple #[.pointer (some ⟨b2,0,none⟩),.int .i64 0]) (by simp[results,results73,asAddr,Act.put]) rfl ⟨⟨_,_,rfl,fun a h=>?_⟩,hBz.out⟩;(injection h with h);subst h;exact⟨b2,_,rfl,Nat.le_of_lt l1,HDz.out,HOk3.out,HEP.out,rfl,rfl⟩
 refine join_ (σ:=Int×Int×List Int×List Bool×Int×List Int×List Bool×List Bool×Nat×Nat) 5 (bt 21 65535) (fun s=>match s with|(z,e2,t2,ad2,k2,ch2,ai,go,b14,b15)=>[(34,.tuple #[.agg (vw e2 t2 ad2 k2 ch2).toArray,.agg (bools ai).toArray,.agg (bools go).toArray,.int .i64 z]),(25,.tuple #[.agg (vw e2 t2 ad2 k2 ch2).toArray,.agg (bools ai).toArray,.agg (bools go).toArray,.int .i64 z]),(35,.agg (vw e2 t2 ad2 k2 ch2).toArray),(36,.agg (bools ai).toArray),(37,.agg (bools go).toArray),(38,.int .i64 z),(7,.pointer (some ⟨b14,0,none⟩)),(8,.pointer (some ⟨b15,0,none⟩))]) (fun s w'=>match s with|(z,e2,t2,ad2,k2,ch2,ai,go,b14,b15)=>Hid (Cel w' w.heap.size 130 (cmC y))/\Hid (Bl w w')/\Hid (VwOk t2 ad2 ch2/\ai.length=8/\go.length=8/\(z=0->e2=x.e))/\Hid (Cel w' b14 45 zvw)/\Hid (w.heap.size<=b14/\b≠b14/\w.heap.size≠b14)/\Hid (BoX w' b15)/\Hid (w.heap.size<=b15/\b≠b15/\w.heap.size≠b15)) ?_ (fun st1=>?_)
 · rintro⟨z,e2,t2,ad2,k2,ch2,ai,go,b14,b15⟩ wc ⟨HY,HB,HR,HA,HAb,HE,HEb⟩;refine mE ?_;have hH:=trivial;refine one_ (i:=16) (N:=some 9) (bt 21 131071) rfl rfl kk dd (fun K hK=>?_);obtain⟨wn,hwn⟩:=ex_ (wc.alloc (.cells (bools zb).toArray 41));refine value_ rr rfl (v:=.pointer (some ⟨wc.heap.size,0,none⟩)) (w1:=wn) (vv hwn) ?_;have hbn:=nb_ hwn;have hltb:=hbw;have hlty:=HY.out.lt;have hszb:=HB.out.size;obtain⟨b16,hb16⟩:=ex_ (wc.heap.size);(have HF:Hid (BoX wn b16):=by rw[hwn,hb16];exact⟨zb,rfl,Cel.new _ rfl rfl⟩);(have HFb:Hid (w.heap.size<=b16/\b≠b16/\w.heap.size≠b16):=by rw[hb16];exact⟨hszb,by omega,by omega⟩);rw[<-hb16];clear hwn hb16 hltb hlty hszb;have HYn:=hd_ (HY.out.below hbn HY.out.lt);have HBn:=tb_ HB hbn;have HRn:=hd_ (HR.out);have HAn:=hd_ (HA.out.below hbn HA.out.lt);have HAbn:=hd_ (HAb.out);have HEn:=hd_ (HE.out.below hbn);have HEbn:=hd_ (HEb.out);refine hK.out _ _ (⟨(HYn.out.cell 1).trans rfl,(HYn.out.cell 2).trans (by show some y.O=_;rw[EO.out]),HC0.out.below HBn.out hbw⟩) (fun hH=>?_);refine mN ?_;exact mH (st0 (z,e2,t2,ad2,k2,ch2,ai,go,b14,b15,b16) wn ⟨HYn,HBn,HRn,HAn,HAbn,HEn,HEbn,HF,HFb⟩)
 refine join_ (σ:=Int×Int×List Int×List Bool×Int×List Int×List Bool×List Bool×Nat×Nat) 5 (bt 21 98303) (fun s=>match s with|(z,e2,t2,ad2,k2,ch2,ai,go,b14,b16)=>[(34,.tuple #[.agg (vw e2 t2 ad2 k2 ch2).toArray,.agg (bools ai).toArray,.agg (bools go).toArray,.int .i64 z]),(25,.tuple #[.agg (vw e2 t2 ad2 k2 ch2).toArray,.agg (bools ai).toArray,.agg (bools go).toArray,.int .i64 z]),(35,.agg (vw e2 t2 ad2 k2 ch2).toArray),(36,.agg (bools ai).toArray),(37,.agg (bools go).toArray),(38,.int .i64 z),(7,.pointer (some ⟨b14,0,none⟩)),(9,.pointer (some ⟨b16,0,none⟩))]) (fun s w'=>match s with|(z,e2,t2,ad2,k2,ch2,ai,go,b14,b16)=>Hid (Cel w' w.heap.size 130 (cmC y))/\Hid (Bl w w')/\Hid (VwOk t2 ad2 ch2/\ai.length=8/\go.length=8/\(z=0->e2=x.e))/\Hid (Cel w' b14 45 zvw)/\Hid (w.heap.size<=b14/\b≠b14/\w.heap.size≠b14)/\Hid (BoX w' b16)/\Hid (w.heap.size<=b16/\b≠b16/\w.heap.size≠b16)) ?_ (fun st2=>?_)
 · rintro⟨z,e2,t2,ad2,k2,ch2,ai,go,b14,b16⟩ wc ⟨HY,HB,HR,HA,HAb,HF,HFb⟩;refine mE ?_;have hH:=trivial;refine one_ (i:=15) (N:=some 8) (bt 21 131071) rfl rfl kk dd (fun K hK=>?_);obtain⟨wn,hwn⟩:=ex_ (wc.alloc (.cells (bools zb).toArray 41));refine value_ rr rfl (v:=.pointer (some ⟨wc.heap.size,0,none⟩)) (w1:=wn) (vv hwn) ?_;have hbn:=nb_ hwn;have hltb:=hbw;have hlty:=HY.out.lt;have hszb:=HB.out.size;obtain⟨b15,hb15⟩:=ex_ (wc.heap.size);(have HE:Hid (BoX wn b15):=by rw[hwn,hb15];exact⟨zb,rfl,Cel.new _ rfl rfl⟩);(have HEb:Hid (w.heap.size<=b15/\b≠b15/\w.heap.size≠b15):=by rw[hb15];exact⟨hszb,by omega,by omega⟩);rw[<-hb15];clear hwn hb15 hltb hlty hszb;have HYn:=hd_ (HY.out.below hbn HY.out.lt);have HBn:=tb_ HB hbn;have HRn:=hd_ (HR.out);have HAn:=hd_ (HA.out.below hbn HA.out.lt);have HAbn:=hd_ (HAb.out);have HFn:=hd_ (HF.out.below hbn);have HFbn:=hd_ (HFb.out);refine hK.out _ _ (⟨(HYn.out.cell 1).trans rfl,(HYn.out.cell 2).trans (by show some y.O=_;rw[EO.out]),HC0.out.below HBn.out hbw⟩) (fun hH=>?_);refine mN ?_;exact mH (st0 (z,e2,t2,ad2,k2,ch2,ai,go,b14,b15,b16) wn ⟨HYn,HBn,HRn,HAn,HAbn,HE,HEb,HFn,HFbn⟩)
 refine join_ (σ:=Int×Int×List Int×List Bool×Int×List Int×List Bool×List Bool×Nat×Nat) 5 (bt 21 114687) (fun s=>match s with|(z,e2,t2,ad2,k2,ch2,ai,go,b15,b16)=>[(34,.tuple #[.agg (vw e2 t2 ad2 k2 ch2).toArray,.agg (bools ai).toArray,.agg (bools go).toArray,.int .i64 z]),(25,.tuple #[.agg (vw e2 t2 ad2 k2 ch2).toArray,.agg (bools ai).toArray,.agg (bools go).toArray,.int .i64 z]),(35,.agg (vw e2 t2 ad2 k2 ch2).toArray),(36,.agg (bools ai).toArray),(37,.agg (bools go).toArray),(38,.int .i64 z),(8,.pointer (some ⟨b15,0,none⟩)),(9,.pointer (some ⟨b16,0,none⟩))]) (fun s w'=>match s with|(z,e2,t2,ad2,k2,ch2,ai,go,b15,b16)=>Hid (Cel w' w.heap.size 130 (cmC y))/\Hid (Bl w w')/\Hid (VwOk t2 ad2 ch2/\ai.length=8/\go.length=8/\(z=0->e2=x.e))/\Hid (BoX w' b15)/\Hid (w.heap.size<=b15/\b≠b15/\w.heap.size≠b15)/\Hid (BoX w' b16)/\Hid (w.heap.size<=b16/\b≠b16/\w.heap.size≠b16)) ?_ (fun st3=>?_)
 · rintro⟨z,e2,t2,ad2,k2,ch2,ai,go,b15,b16⟩ wc ⟨HY,HB,HR,HE,HEb,HF,HFb⟩;refine mE ?_;have hH:=trivial;refine one_ (i:=14) (N:=some 7) (bt 21 131071) rfl rfl kk dd (fun K hK=>?_);obtain⟨wn,hwn⟩:=ex_ (wc.alloc (.cells (zvw).toArray 45));refine value_ rr rfl (v:=.pointer (some ⟨wc.heap.size,0,none⟩)) (w1:=wn) (vv hwn) ?_;have hbn:=nb_ hwn;have hltb:=hbw;have hlty:=HY.out.lt;have hszb:=HB.out.size;obtain⟨b14,hb14⟩:=ex_ (wc.heap.size);(have HA:Hid (Cel wn b14 45 zvw):=by rw[hwn,hb14];exact Cel.new _ rfl rfl);(have HAb:Hid (w.heap.size<=b14/\b≠b14/\w.heap.size≠b14):=by rw[hb14];exact⟨hszb,by omega,by omega⟩);rw[<-hb14];clear hwn hb14 hltb hlty hszb;have HYn:=hd_ (HY.out.below hbn HY.out.lt);have HBn:=tb_ HB hbn;have HRn:=hd_ (HR.out);have HEn:=hd_ (HE.out.below hbn);have HEbn:=hd_ (HEb.out);have HFn:=hd_ (HF.out.below hbn);have HFbn:=hd_ (HFb.out);refine hK.out _ _ (⟨(HYn.out.cell 1).trans rfl,(HYn.out.cell 2).trans (by show some y.O=_;rw[EO.out]),HC0.out.below HBn.out hbw⟩) (fun hH=>?_);refine mN ?_;exact mH (st0 (z,e2,t2,ad2,k2,ch2,ai,go,b14,b15,b16) wn ⟨HYn,HBn,HRn,HA,HAb,HEn,HEbn,HFn,HFbn⟩)
 refine join_ (σ:=Int×Int×List Int×List Bool×Int×List Int×List Bool×List Bool×Nat) 6 (bt 21 32767) (fun s=>match s with|(z,e2,t2,ad2,k2,ch2,ai,go,b14)=>[(34,.tuple #[.agg (vw e2 t2 ad2 k2 ch2).toArray,.agg (bools ai).toArray,.agg (bools go).toArray,.int .i64 z]),(25,.tuple #[.agg (vw e2 t2 ad2 k2 ch2).toArray,.agg (bools ai).toArray,.agg (bools go).toArray,.int .i64 z]),(35,.agg (vw e2 t2 ad2 k2 ch2).toArray),(36,.agg (bools ai).toArray),(37,.agg (bools go).toArray),(38,.int .i64 z),(7,.pointer (some ⟨b14,0,none⟩))]) (fun s w'=>match s with|(z,e2,t2,ad2,k2,ch2,ai,go,b14)=>Hid (Cel w' w.heap.size 130 (cmC y))/\Hid (Bl w w')/\Hid (VwOk t2 ad2 ch2/\ai.length=8/\go.length=8/\(z=0->e2=x.e))/\Hid (Cel w' b14 45 zvw)/\Hid (w.heap.size<=b14/\b≠b14/\w.heap.size≠b14)) ?_ (fun st4=>?_)
 · rintro⟨z,e2,t2,ad2,k2,ch2,ai,go,b14⟩ wc ⟨HY,HB,HR,HA,HAb⟩;refine mE ?_;have hH:=trivial;refine two_ (i:=15) (j:=16) (Ni:=some 8) (Nj:=some 9) (bt 21 65535) (bt 21 98303) rfl rfl rfl rfl kk dd dd (fun K hK=>?_) (fun K hK=>?_);(· obtain⟨wn,hwn⟩:=ex_ (wc.alloc (.cells (bools zb).toArray 41));refine value_ rr rfl (v:=.pointer (some ⟨wc.heap.size,0,none⟩)) (w1:=wn) (vv hwn) ?_;have hbn:=nb_ hwn;have hltb:=hbw;have hlty:=HY.out.lt;have hszb:=HB.out.size;obtain⟨b15,hb15⟩:=ex_ (wc.heap.size);(have HE:Hid (BoX wn b15):=by rw[hwn,hb15];exact⟨zb,rfl,Cel.new _ rfl rfl⟩);(have HEb:Hid (w.heap.size<=b15/\b≠b15/\w.heap.size≠b15):=by rw[hb15];exact⟨hszb,by omega,by omega⟩);rw[<-hb15];clear hwn hb15 hltb hlty hszb;have HYn:=hd_ (HY.out.below hbn HY.out.lt);have HBn:=tb_ HB hbn;have HRn:=hd_ (HR.out);have HAn:=hd_ (HA.out.below hbn HA.out.lt);have HAbn:=hd_ (HAb.out);refine hK.out _ _ (⟨(HYn.out.cell 1).trans rfl,(HYn.out.cell 2).trans (by show some y.O=_;rw[EO.out]),HC0.out.below HBn.out hbw⟩) (fun hH=>?_);refine mN ?_;exact mH (st1 (z,e2,t2,ad2,k2,ch2,ai,go,b14,b15) wn ⟨HYn,HBn,HRn,HAn,HAbn,HE,HEb⟩));obtain⟨wn,hwn⟩:=ex_ (wc.alloc (.cells (bools zb).toArray 41));refine value_ rr rfl (v:=.pointer (some ⟨wc.heap.size,0,none⟩)) (w1:=wn) (vv hwn) ?_;have hbn:=nb_ hwn;have hltb:=hbw;have hlty:=HY.out.lt;have hszb:=HB.out.size;obtain⟨b16,hb16⟩:=ex_ (wc.heap.size);(have HF:Hid (BoX wn b16):=by rw[hwn,hb16];exact⟨zb,rfl,Cel.new _ rfl rfl⟩);(have HFb:Hid (w.heap.size<=b16/\b≠b16/\w.heap.size≠b16):=by rw[hb16];exact⟨hszb,by omega,by omega⟩);rw[<-hb16];clear hwn hb16 hltb hlty hszb;have HYn:=hd_ (HY.out.below hbn HY.out.lt);have HBn:=tb_ HB hbn;have HRn:=hd_ (HR.out);have HAn:=hd_ (HA.out.below hbn HA.out.lt);have HAbn:=hd_ (HAb.out);refine hK.out _ _ (⟨(HYn.out.cell 1).trans rfl,(HYn.out.cell 2).trans (by show some y.O=_;rw[EO.out]),HC0.out.below HBn.out hbw⟩) (fun hH=>?_);refine mN ?_;exact mH (st2 (z,e2,t2,ad2,k2,ch2,ai,go,b14,b16) wn ⟨HYn,HBn,HRn,HAn,HAbn,HF,HFb⟩)
 refine join_ (σ:=Int×Int×List Int×List Bool×Int×List Int×List Bool×List Bool×Nat) 6 (bt 21 49151) (fun s=>match s with|(z,e2,t2,ad2,k2,ch2,ai,go,b15)=>[(34,.tuple #[.agg (vw e2 t2 ad2 k2 ch2).toArray,.agg (bools ai).toArray,.agg (bools go).toArray,.int .i64 z]),(25,.tuple #[.agg (vw e2 t2 ad2 k2 ch2).toArray,.agg (bools ai).toArray,.agg (bools go).toArray,.int .i64 z]),(35,.agg (vw e2 t2 ad2 k2 ch2).toArray),(36,.agg (bools ai).toArray),(37,.agg (bools go).toArray),(38,.int .i64 z),(8,.pointer (some ⟨b15,0,none⟩))]) (fun s w'=>match s with|(z,e2,t2,ad2,k2,ch2,ai,go,b15)=>Hid (Cel w' w.heap.size 130 (cmC y))/\Hid (Bl w w')/\Hid (VwOk t2 ad2 ch2/\ai.length=8/\go.length=8/\(z=0->e2=x.e))/\Hid (BoX w' b15)/\Hid (w.heap.size<=b15/\b≠b15/\w.heap.size≠b15)) ?_ (fun st5=>?_)
 · rintro⟨z,e2,t2,ad2,k2,ch2,ai,go,b15⟩ wc ⟨HY,HB,HR,HE,HEb⟩;refine mE ?_;have hH:=trivial;refine two_ (i:=14) (j:=16) (Ni:=some 7) (Nj:=some 9) (bt 21 65535) (bt 21 114687) rfl rfl rfl rfl kk dd dd (fun K hK=>?_) (fun K hK=>?_);(· obtain⟨wn,hwn⟩:=ex_ (wc.alloc (.cells (zvw).toArray 45));refine value_ rr rfl (v:=.pointer (some ⟨wc.heap.size,0,none⟩)) (w1:=wn) (vv hwn) ?_;have hbn:=nb_ hwn;have hltb:=hbw;have hlty:=HY.out.lt;have hszb:=HB.out.size;obtain⟨b14,hb14⟩:=ex_ (wc.heap.size);(have HA:Hid (Cel wn b14 45 zvw):=by rw[hwn,hb14];exact Cel.new _ rfl rfl);(have HAb:Hid (w.heap.size<=b14/\b≠b14/\w.heap.size≠b14):=by rw[hb14];exact⟨hszb,by omega,by omega⟩);rw[<-hb14];clear hwn hb14 hltb hlty hszb;have HYn:=hd_ (HY.out.below hbn HY.out.lt);have HBn:=tb_ HB hbn;have HRn:=hd_ (HR.out);have HEn:=hd_ (HE.out.below hbn);have HEbn:=hd_ (HEb.out);refine hK.out _ _ (⟨(HYn.out.cell 1).trans rfl,(HYn.out.cell 2).trans (by show some y.O=_;rw[EO.out]),HC0.out.below HBn.out hbw⟩) (fun hH=>?_);refine mN ?_;exact mH (st1 (z,e2,t2,ad2,k2,ch2,ai,go,b14,b15) wn ⟨HYn,HBn,HRn,HA,HAb,HEn,HEbn⟩));obtain⟨wn,hwn⟩:=ex_ (wc.alloc (.cells (bools zb).toArray 41));refine value_ rr rfl (v:=.pointer (some ⟨wc.heap.size,0,none⟩)) (w1:=wn) (vv hwn) ?_;have hbn:=nb_ hwn;have hltb:=hbw;have hlty:=HY.out.lt;have hszb:=HB.out.size;obtain⟨b16,hb16⟩:=ex_ (wc.heap.size);(have HF:Hid (BoX wn b16):=by rw[hwn,hb16];exact⟨zb,rfl,Cel.new _ rfl rfl⟩);(have HFb:Hid (w.heap.size<=b16/\b≠b16/\w.heap.size≠b16):=by rw[hb16];exact⟨hszb,by omega,by omega⟩);rw[<-hb16];clear hwn hb16 hltb hlty hszb;have HYn:=hd_ (HY.out.below hbn HY.out.lt);have HBn:=tb_ HB hbn;have HRn:=hd_ (HR.out);have HEn:=hd_ (HE.out.below hbn);have HEbn:=hd_ (HEb.out);refine hK.out _ _ (⟨(HYn.out.cell 1).trans rfl,(HYn.out.cell 2).trans (by show some y.O=_;rw[EO.out]),HC0.out.below HBn.out hbw⟩) (fun hH=>?_);refine mN ?_;exact mH (st3 (z,e2,t2,ad2,k2,ch2,ai,go,b15,b16) wn ⟨HYn,HBn,HRn,HEn,HEbn,HF,HFb⟩)
 refine join_ (σ:=Int×Int×List Int×List Bool×Int×List Int×List Bool×List Bool×Nat) 6 (bt 21 81919) (fun s=>match s with|(z,e2,t2,ad2,k2,ch2,ai,go,b16)=>[(34,.tuple #[.agg (vw e2 t2 ad2 k2 ch2).toArray,.agg (bools ai).toArray,.agg (bools go).toArray,.int .i64 z]),(25,.tuple #[.agg (vw e2 t2 ad2 k2 ch2).toArray,.agg (bools ai).toArray,.agg (bools go).toArray,.int .i64 z]),(35,.agg (vw e2 t2 ad2 k2 ch2).toArray),(36,.agg (bools ai).toArray),(37,.agg (bools go).toArray),(38,.int .i64 z),(9,.pointer (some ⟨b16,0,none⟩))]) (fun s w'=>match s with|(z,e2,t2,ad2,k2,ch2,ai,go,b16)=>Hid (Cel w' w.heap.size 130 (cmC y))/\Hid (Bl w w')/\Hid (VwOk t2 ad2 ch2/\ai.length=8/\go.length=8/\(z=0->e2=x.e))/\Hid (BoX w' b16)/\Hid (w.heap.size<=b16/\b≠b16/\w.heap.size≠b16)) ?_ (fun st6=>?_)
 · rintro⟨z,e2,t2,ad2,k2,ch2,ai,go,b16⟩ wc ⟨HY,HB,HR,HF,HFb⟩;refine mE ?_;have hH:=trivial;refine two_ (i:=14) (j:=15) (Ni:=some 7) (Nj:=some 8) (bt 21 98303) (bt 21 114687) rfl rfl rfl rfl kk dd dd (fun K hK=>?_) (fun K hK=>?_);(· obtain⟨wn,hwn⟩:=ex_ (wc.alloc (.cells (zvw).toArray 45));refine value_ rr rfl (v:=.pointer (some ⟨wc.heap.size,0,none⟩)) (w1:=wn) (vv hwn) ?_;have hbn:=nb_ hwn;have hltb:=hbw;have hlty:=HY.out.lt;have hszb:=HB.out.size;obtain⟨b14,hb14⟩:=ex_ (wc.heap.size);(have HA:Hid (Cel wn b14 45 zvw):=by rw[hwn,hb14];exact Cel.new _ rfl rfl);(have HAb:Hid (w.heap.size<=b14/\b≠b14/\w.heap.size≠b14):=by rw[hb14];exact⟨hszb,by omega,by omega⟩);rw[<-hb14];clear hwn hb14 hltb hlty hszb;have HYn:=hd_ (HY.out.below hbn HY.out.lt);have HBn:=tb_ HB hbn;have HRn:=hd_ (HR.out);have HFn:=hd_ (HF.out.below hbn);have HFbn:=hd_ (HFb.out);refine hK.out _ _ (⟨(HYn.out.cell 1).trans rfl,(HYn.out.cell 2).trans (by show some y.O=_;rw[EO.out]),HC0.out.below HBn.out hbw⟩) (fun hH=>?_);refine mN ?_;exact mH (st2 (z,e2,t2,ad2,k2,ch2,ai,go,b14,b16) wn ⟨HYn,HBn,HRn,HA,HAb,HFn,HFbn⟩));obtain⟨wn,hwn⟩:=ex_ (wc.alloc (.cells (bools zb).toArray 41));refine value_ rr rfl (v:=.pointer (some ⟨wc.heap.size,0,none⟩)) (w1:=wn) (vv hwn) ?_;have hbn:=nb_ hwn;have hltb:=hbw;have hlty:=HY.out.lt;have hszb:=HB.out.size;obtain⟨b15,hb15⟩:=ex_ (wc.heap.size);(have HE:Hid (BoX wn b15):=by rw[hwn,hb15];exact⟨zb,rfl,Cel.new _ rfl rfl⟩);(have HEb:Hid (w.heap.size<=b15/\b≠b15/\w.heap.size≠b15):=by rw[hb15];exact⟨hszb,by omega,by omega⟩);rw[<-hb15];clear hwn hb15 hltb hlty hszb;have HYn:=hd_ (HY.out.below hbn HY.out.lt);have HBn:=tb_ HB hbn;have HRn:=hd_ (HR.out);have HFn:=hd_ (HF.out.below hbn);have HFbn:=hd_ (HFb.out);refine hK.out _ _ (⟨(HYn.out.cell 1).trans rfl,(HYn.out.cell 2).trans (by show some y.O=_;rw[EO.out]),HC0.out.below HBn.out hbw⟩) (fun hH=>?_);refine mN ?_;exact mH (st3 (z,e2,t2,ad2,k2,ch2,ai,go,b15,b16) wn ⟨HYn,HBn,HRn,HE,HEb,HFn,HFbn⟩)
 refine join_ (σ:=Int×Int×List Int×List Bool×Int×List Int×List Bool×List Bool) 7 (bt 21 16383) (fun s=>match s with|(z,e2,t2,ad2,k2,ch2,ai,go)=>[(34,.tuple #[.agg (vw e2 t2 ad2 k2 ch2).toArray,.agg (bools ai).toArray,.agg (bools go).toArray,.int .i64 z]),(25,.tuple #[.agg (vw e2 t2 ad2 k2 ch2).toArray,.agg (bools ai).toArray,.agg (bools go).toArray,.int .i64 z]),(35,.agg (vw e2 t2 ad2 k2 ch2).toArray),(36,.agg (bools ai).toArray),(37,.agg (bools go).toArray),(38,.int .i64 z)]) (fun s w'=>match s with|(z,e2,t2,ad2,k2,ch2,ai,go)=>Hid (Cel w' w.heap.size 130 (cmC y))/\Hid (Bl w w')/\Hid (VwOk t2 ad2 ch2/\ai.length=8/\go.length=8/\(z=0->e2=x.e))) ?_ (fun st7=>?_)
 · rintro⟨z,e2,t2,ad2,k2,ch2,ai,go⟩ wc ⟨HY,HB,HR⟩;refine mE ?_;have hH:=trivial;refine three_ (i:=14) (j:=15) (k:=16) (Ni:=some 7) (Nj:=some 8) (Nk:=some 9) (bt 21 32767) (bt 21 49151) (bt 21 81919) rfl rfl rfl rfl rfl rfl kk dd dd dd (fun K hK=>?_) (fun K hK=>?_) (fun K hK=>?_);(· obtain⟨wn,hwn⟩:=ex_ (wc.alloc (.cells (zvw).toArray 45));refine value_ rr rfl (v:=.pointer (some ⟨wc.heap.size,0,none⟩)) (w1:=wn) (vv hwn) ?_;have hbn:=nb_ hwn;have hltb:=hbw;have hlty:=HY.out.lt;have hszb:=HB.out.size;obtain⟨b14,hb14⟩:=ex_ (wc.heap.size);(have HA:Hid (Cel wn b14 45 zvw):=by rw[hwn,hb14];exact Cel.new _ rfl rfl);(have HAb:Hid (w.heap.size<=b14/\b≠b14/\w.heap.size≠b14):=by rw[hb14];exact⟨hszb,by omega,by omega⟩);rw[<-hb14];clear hwn hb14 hltb hlty hszb;have HYn:=hd_ (HY.out.below hbn HY.out.lt);have HBn:=tb_ HB hbn;have HRn:=hd_ (HR.out);refine hK.out _ _ (⟨(HYn.out.cell 1).trans rfl,(HYn.out.cell 2).trans (by show some y.O=_;rw[EO.out]),HC0.out.below HBn.out hbw⟩) (fun hH=>?_);refine mN ?_;exact mH (st4 (z,e2,t2,ad2,k2,ch2,ai,go,b14) wn ⟨HYn,HBn,HRn,HA,HAb⟩));(· obtain⟨wn,hwn⟩:=ex_ (wc.alloc (.cells (bools zb).toArray 41));refine value_ rr rfl (v:=.pointer (some ⟨wc.heap.size,0,none⟩)) (w1:=wn) (vv hwn) ?_;have hbn:=nb_ hwn;have hltb:=hbw;have hlty:=HY.out.lt;have hszb:=HB.out.size;obtain⟨b15,hb15⟩:=ex_ (wc.heap.size);(have HE:Hid (BoX wn b15):=by rw[hwn,hb15];exact⟨zb,rfl,Cel.new _ rfl rfl⟩);(have HEb:Hid (w.heap.size<=b15/\b≠b15/\w.heap.size≠b15):=by rw[hb15];exact⟨hszb,by omega,by omega⟩);rw[<-hb15];clear hwn hb15 hltb hlty hszb;have HYn:=hd_ (HY.out.below hbn HY.out.lt);have HBn:=tb_ HB hbn;have HRn:=hd_ (HR.out);refine hK.out _ _ (⟨(HYn.out.cell 1).trans rfl,(HYn.out.cell 2).trans (by show some y.O=_;rw[EO.out]),HC0.out.below HBn.out hbw⟩) (fun hH=>?_);refine mN ?_;exact mH (st5 (z,e2,t2,ad2,k2,ch2,ai,go,b15) wn ⟨HYn,HBn,HRn,HE,HEb⟩));obtain⟨wn,hwn⟩:=ex_ (wc.alloc (.cells (bools zb).toArray 41));refine value_ rr rfl (v:=.pointer (some ⟨wc.heap.size,0,none⟩)) (w1:=wn) (vv hwn) ?_;have hbn:=nb_ hwn;have hltb:=hbw;have hlty:=HY.out.lt;have hszb:=HB.out.size;obtain⟨b16,hb16⟩:=ex_ (wc.heap.size);(have HF:Hid (BoX wn b16):=by rw[hwn,hb16];exact⟨zb,rfl,Cel.new _ rfl rfl⟩);(have HFb:Hid (w.heap.size<=b16/\b≠b16/\w.heap.size≠b16):=by rw[hb16];exact⟨hszb,by omega,by omega⟩);rw[<-hb16];clear hwn hb16 hltb hlty hszb;have HYn:=hd_ (HY.out.below hbn HY.out.lt);have HBn:=tb_ HB hbn;have HRn:=hd_ (HR.out);refine hK.out _ _ (⟨(HYn.out.cell 1).trans rfl,(HYn.out.cell 2).trans (by show some y.O=_;rw[EO.out]),HC0.out.below HBn.out hbw⟩) (fun hH=>?_);refine mN ?_;exact mH (st6 (z,e2,t2,ad2,k2,ch2,ai,go,b16) wn ⟨HYn,HBn,HRn,HF,HFb⟩)
 refine join_ (σ:=Nat×Nat×Nat) 10 (bt 21 114943) (fun s=>match s with|(b14,b15,b16)=>[(7,.pointer (some ⟨b14,0,none⟩)),(8,.pointer (some ⟨b15,0,none⟩)),(9,.pointer (some ⟨b16,0,none⟩))]) (fun s w'=>match s with|(b14,b15,b16)=>Hid (Cel w' w.heap.size 130 (cmC y))/\Hid (Bl w w')/\Hid (Cel w' b14 45 zvw)/\Hid (w.heap.size<=b14/\b≠b14/\w.heap.size≠b14)/\Hid (BoX w' b15)/\Hid (w.heap.size<=b15/\b≠b15/\w.heap.size≠b15)/\Hid (BoX w' b16)/\Hid (w.heap.size<=b16/\b≠b16/\w.heap.size≠b16)) ?_ (fun st8=>?_)
 · rintro⟨b14,b15,b16⟩ wc ⟨HY,HB,HA,HAb,HE,HEb,HF,HFb⟩;refine mE ?_;have hH:=trivial;refine one_ (i:=8) (N:=some 34) (bt 21 115199) rfl rfl kk dd (fun K hK=>?_);refine goes_ func94 kk rfl #[.agg (vw x.e x.t x.ad x.k x.ch).toArray,.int .i64 y.f,.slice AO nO cO] rr rfl rfl mL ?_;refine(apply_any x.e x.k y.f x.t x.ch x.ad AO nO cO lO _ HOk.out.vw (HO0.out.below HB.out) o_).mono ?_;rintro _ wn ⟨⟨z,e2,t2,ad2,k2,ch2,ai,go,rfl,hv2,hai,hgo,hzz⟩,hbn⟩;refine⟨_,rfl,?_⟩;have HR:Hid (VwOk t2 ad2 ch2/\ai.length=8/\go.length=8/\(z=0->e2=x.e)):=⟨hv2,hai,hgo,fun h=>(hzz h).1⟩;have HYn:=hd_ (HY.out.below hbn HY.out.lt);have HBn:=tb_ HB hbn;have HAn:=hd_ (HA.out.below hbn HA.out.lt);have HAbn:=hd_ (HAb.out);have HEn:=hd_ (HE.out.below hbn);have HEbn:=hd_ (HEb.out);have HFn:=hd_ (HF.out.below hbn);have HFbn:=hd_ (HFb.out);refine hK.out _ _ (⟨(HYn.out.cell 1).trans rfl,(HYn.out.cell 2).trans (by show some y.O=_;rw[EO.out]),HC0.out.below HBn.out hbw⟩) (fun hH=>?_);refine mN ?_;refine ts_ 9 2 7 (bt 21 116735) hH ?_;refine mD ?_;(repeat (first|(refine tk_ 45 (.tmp 28) b 0 ((vw x.e x.t x.ad x.k x.ch)) (fun _ h=>py_rg0 HOk.out h.2.2.out) underlying45 rfl hVI.out ?_)|(refine uA ?_)|(refine mB3 ?_)));refine takes_nil ?_;refine ps_ 11 3 4 (bt 21 131071) ?_;refine mT1 ?_;exact mH (st0 (z,e2,t2,ad2,k2,ch2,ai,go,b14,b15,b16) wn ⟨HYn,HBn,HR,HAn,HAbn,HEn,HEbn,HFn,HFbn⟩)
 refine join_ (σ:=Nat×Nat) 11 (bt 21 49407) (fun s=>match s with|(b14,b15)=>[(7,.pointer (some ⟨b14,0,none⟩)),(8,.pointer (some ⟨b15,0,none⟩))]) (fun s w'=>match s with|(b14,b15)=>Hid (Cel w' w.heap.size 130 (cmC y))/\Hid (Bl w w')/\Hid (Cel w' b14 45 zvw)/\Hid (w.heap.size<=b14/\b≠b14/\w.heap.size≠b14)/\Hid (BoX w' b15)/\Hid (w.heap.size<=b15/\b≠b15/\w.heap.size≠b15)) ?_ (fun st9=>?_)
 · rintro⟨b14,b15⟩ wc ⟨HY,HB,HA,HAb,HE,HEb⟩;refine mE ?_;have hH:=trivial;refine two_ (i:=8) (j:=16) (Ni:=some 34) (Nj:=some 9) (bt 21 49663) (bt 21 114943) rfl rfl rfl rfl kk dd dd (fun K hK=>?_) (fun K hK=>?_);(· refine goes_ func94 kk rfl #[.agg (vw x.e x.t x.ad x.k x.ch).toArray,.int .i64 y.f,.slice AO nO cO] rr rfl rfl mL ?_;refine(apply_any x.e x.k y.f x.t x.ch x.ad AO nO cO lO _ HOk.out.vw (HO0.out.below HB.out) o_).mono ?_;rintro _ wn ⟨⟨z,e2,t2,ad2,k2,ch2,ai,go,rfl,hv2,hai,hgo,hzz⟩,hbn⟩;refine⟨_,rfl,?_⟩;have HR:Hid (VwOk t2 ad2 ch2/\ai.length=8/\go.length=8/\(z=0->e2=x.e)):=⟨hv2,hai,hgo,fun h=>(hzz h).1⟩;have HYn:=hd_ (HY.out.below hbn HY.out.lt);have HBn:=tb_ HB hbn;have HAn:=hd_ (HA.out.below hbn HA.out.lt);have HAbn:=hd_ (HAb.out);have HEn:=hd_ (HE.out.below hbn);have HEbn:=hd_ (HEb.out);refine hK.out _ _ (⟨(HYn.out.cell 1).trans rfl,(HYn.out.cell 2).trans (by show some y.O=_;rw[EO.out]),HC0.out.below HBn.out hbw⟩) (fun hH=>?_);refine mN ?_;refine ts_ 9 2 8 (bt 21 51199) hH ?_;refine mD ?_;(repeat (first|(refine tk_ 45 (.tmp 28) b 0 ((vw x.e x.t x.ad x.k x.ch)) (fun _ h=>py_rg0 HOk.out h.2.2.out) underlying45 rfl hVI.out ?_)|(refine uA ?_)|(refine mB3 ?_)));refine takes_nil ?_;refine ps_ 11 3 5 (bt 21 65535) ?_;refine mT1 ?_;exact mH (st1 (z,e2,t2,ad2,k2,ch2,ai,go,b14,b15) wn ⟨HYn,HBn,HR,HAn,HAbn,HEn,HEbn⟩));obtain⟨wn,hwn⟩:=ex_ (wc.alloc (.cells (bools zb).toArray 41));refine value_ rr rfl (v:=.pointer (some ⟨wc.heap.size,0,none⟩)) (w1:=wn) (vv hwn) ?_;have hbn:=nb_ hwn;have hltb:=hbw;have hlty:=HY.out.lt;have hszb:=HB.out.size;obtain⟨b16,hb16⟩:=ex_ (wc.heap.size);(have HF:Hid (BoX wn b16):=by rw[hwn,hb16];exact⟨zb,rfl,Cel.new _ rfl rfl⟩);(have HFb:Hid (w.heap.size<=b16/\b≠b16/\w.heap.size≠b16):=by rw[hb16];exact⟨hszb,by omega,by omega⟩);rw[<-hb16];clear hwn hb16 hltb hlty hszb;have HYn:=hd_ (HY.out.below hbn HY.out.lt);have HBn:=tb_ HB hbn;have HAn:=hd_ (HA.out.below hbn HA.out.lt);have HAbn:=hd_ (HAb.out);have HEn:=hd_ (HE.out.below hbn);have HEbn:=hd_ (HEb.out);refine hK.out _ _ (⟨(HYn.out.cell 1).trans rfl,(HYn.out.cell 2).trans (by show some y.O=_;rw[EO.out]),HC0.out.below HBn.out hbw⟩) (fun hH=>?_);refine mN ?_;exact mH (st8 (b14,b15,b16) wn ⟨HYn,HBn,HAn,HAbn,HEn,HEbn,HF,HFb⟩)
 refine join_ (σ:=Nat×Nat) 11 (bt 21 82175) (fun s=>match s with|(b14,b16)=>[(7,.pointer (some ⟨b14,0,none⟩)),(9,.pointer (some ⟨b16,0,none⟩))]) (fun s w'=>match s with|(b14,b16)=>Hid (Cel w' w.heap.size 130 (cmC y))/\Hid (Bl w w')/\Hid (Cel w' b14 45 zvw)/\Hid (w.heap.size<=b14/\b≠b14/\w.heap.size≠b14)/\Hid (BoX w' b16)/\Hid (w.heap.size<=b16/\b≠b16/\w.heap.size≠b16)) ?_ (fun st10=>?_)
 · rintro⟨b14,b16⟩ wc ⟨HY,HB,HA,HAb,HF,HFb⟩;refine mE ?_;have hH:=trivial;refine two_ (i:=8) (j:=15) (Ni:=some 34) (Nj:=some 8) (bt 21 82431) (bt 21 114943) rfl rfl rfl rfl kk dd dd (fun K hK=>?_) (fun K hK=>?_);(· refine goes_ func94 kk rfl #[.agg (vw x.e x.t x.ad x.k x.ch).toArray,.int .i64 y.f,.slice AO nO cO] rr rfl rfl mL ?_;refine(apply_any x.e x.k y.f x.t x.ch x.ad AO nO cO lO _ HOk.out.vw (HO0.out.below HB.out) o_).mono ?_;rintro _ wn ⟨⟨z,e2,t2,ad2,k2,ch2,ai,go,rfl,hv2,hai,hgo,hzz⟩,hbn⟩;refine⟨_,rfl,?_⟩;have HR:Hid (VwOk t2 ad2 ch2/\ai.length=8/\go.length=8/\(z=0->e2=x.e)):=⟨hv2,hai,hgo,fun h=>(hzz h).1⟩;have HYn:=hd_ (HY.out.below hbn HY.out.lt);have HBn:=tb_ HB hbn;have HAn:=hd_ (HA.out.below hbn HA.out.lt);have HAbn:=hd_ (HAb.out);have HFn:=hd_ (HF.out.below hbn);have HFbn:=hd_ (HFb.out);refine hK.out _ _ (⟨(HYn.out.cell 1).trans rfl,(HYn.out.cell 2).trans (by show some y.O=_;rw[EO.out]),HC0.out.below HBn.out hbw⟩) (fun hH=>?_);refine mN ?_;refine ts_ 9 2 8 (bt 21 83967) hH ?_;refine mD ?_;(repeat (first|(refine tk_ 45 (.tmp 28) b 0 ((vw x.e x.t x.ad x.k x.ch)) (fun _ h=>py_rg0 HOk.out h.2.2.out) underlying45 rfl hVI.out ?_)|(refine uA ?_)|(refine mB3 ?_)));refine takes_nil ?_;refine ps_ 11 3 5 (bt 21 98303) ?_;refine mT1 ?_;exact mH (st2 (z,e2,t2,ad2,k2,ch2,ai,go,b14,b16) wn ⟨HYn,HBn,HR,HAn,HAbn,HFn,HFbn⟩));obtain⟨wn,hwn⟩:=ex_ (wc.alloc (.cells (bools zb).toArray 41));refine value_ rr rfl (v:=.pointer (some ⟨wc.heap.size,0,none⟩)) (w1:=wn) (vv hwn) ?_;have hbn:=nb_ hwn;have hltb:=hbw;have hlty:=HY.out.lt;have hszb:=HB.out.size;obtain⟨b15,hb15⟩:=ex_ (wc.heap.size);(have HE:Hid (BoX wn b15):=by rw[hwn,hb15];exact⟨zb,rfl,Cel.new _ rfl rfl⟩);(have HEb:Hid (w.heap.size<=b15/\b≠b15/\w.heap.size≠b15):=by rw[hb15];exact⟨hszb,by omega,by omega⟩);rw[<-hb15];clear hwn hb15 hltb hlty hszb;have HYn:=hd_ (HY.out.below hbn HY.out.lt);have HBn:=tb_ HB hbn;have HAn:=hd_ (HA.out.below hbn HA.out.lt);have HAbn:=hd_ (HAb.out);have HFn:=hd_ (HF.out.below hbn);have HFbn:=hd_ (HFb.out);refine hK.out _ _ (⟨(HYn.out.cell 1).trans rfl,(HYn.out.cell 2).trans (by show some y.O=_;rw[EO.out]),HC0.out.below HBn.out hbw⟩) (fun hH=>?_);refine mN ?_;exact mH (st8 (b14,b15,b16) wn ⟨HYn,HBn,HAn,HAbn,HE,HEb,HFn,HFbn⟩)
 refine join_ (σ:=Nat×Nat) 11 (bt 21 98559) (fun s=>match s with|(b15,b16)=>[(8,.pointer (some ⟨b15,0,none⟩)),(9,.pointer (some ⟨b16,0,none⟩))]) (fun s w'=>match s with|(b15,b16)=>Hid (Cel w' w.heap.size 130 (cmC y))/\Hid (Bl w w')/\Hid (BoX w' b15)/\Hid (w.heap.size<=b15/\b≠b15/\w.heap.size≠b15)/\Hid (BoX w' b16)/\Hid (w.heap.size<=b16/\b≠b16/\w.heap.size≠b16)) ?_ (fun st11=>?_)
 · rintro⟨b15,b16⟩ wc ⟨HY,HB,HE,HEb,HF,HFb⟩;refine mE ?_;have hH:=trivial;refine two_ (i:=8) (j:=14) (Ni:=some 34) (Nj:=some 7) (bt 21 98815) (bt 21 114943) rfl rfl rfl rfl kk dd dd (fun K hK=>?_) (fun K hK=>?_);(· refine goes_ func94 kk rfl #[.agg (vw x.e x.t x.ad x.k x.ch).toArray,.int .i64 y.f,.slice AO nO cO] rr rfl rfl mL ?_;refine(apply_any x.e x.k y.f x.t x.ch x.ad AO nO cO lO _ HOk.out.vw (HO0.out.below HB.out) o_).mono ?_;rintro _ wn ⟨⟨z,e2,t2,ad2,k2,ch2,ai,go,rfl,hv2,hai,hgo,hzz⟩,hbn⟩;refine⟨_,rfl,?_⟩;have HR:Hid (VwOk t2 ad2 ch2/\ai.length=8/\go.length=8/\(z=0->e2=x.e)):=⟨hv2,hai,hgo,fun h=>(hzz h).1⟩;have HYn:=hd_ (HY.out.below hbn HY.out.lt);have HBn:=tb_ HB hbn;have HEn:=hd_ (HE.out.below hbn);have HEbn:=hd_ (HEb.out);have HFn:=hd_ (HF.out.below hbn);have HFbn:=hd_ (HFb.out);refine hK.out _ _ (⟨(HYn.out.cell 1).trans rfl,(HYn.out.cell 2).trans (by show some y.O=_;rw[EO.out]),HC0.out.below HBn.out hbw⟩) (fun hH=>?_);refine mN ?_;refine ts_ 9 2 8 (bt 21 100351) hH ?_;refine mD ?_;(repeat (first|(refine tk_ 45 (.tmp 28) b 0 ((vw x.e x.t x.ad x.k x.ch)) (fun _ h=>py_rg0 HOk.out h.2.2.out) underlying45 rfl hVI.out ?_)|(refine uA ?_)|(refine mB3 ?_)));refine takes_nil ?_;refine ps_ 11 3 5 (bt 21 114687) ?_;refine mT1 ?_;exact mH (st3 (z,e2,t2,ad2,k2,ch2,ai,go,b15,b16) wn ⟨HYn,HBn,HR,HEn,HEbn,HFn,HFbn⟩));obtain⟨wn,hwn⟩:=ex_ (wc.alloc (.cells (zvw).toArray 45));refine value_ rr rfl (v:=.pointer (some ⟨wc.heap.size,0,none⟩)) (w1:=wn) (vv hwn) ?_;have hbn:=nb_ hwn;have hltb:=hbw;have hlty:=HY.out.lt;have hszb:=HB.out.size;obtain⟨b14,hb14⟩:=ex_ (wc.heap.size);(have HA:Hid (Cel wn b14 45 zvw):=by rw[hwn,hb14];exact Cel.new _ rfl rfl);(have HAb:Hid (w.heap.size<=b14/\b≠b14/\w.heap.size≠b14):=by rw[hb14];exact⟨hszb,by omega,by omega⟩);rw[<-hb14];clear hwn hb14 hltb hlty hszb;have HYn:=hd_ (HY.out.below hbn HY.out.lt);have HBn:=tb_ HB hbn;have HEn:=hd_ (HE.out.below hbn);have HEbn:=hd_ (HEb.out);have HFn:=hd_ (HF.out.below hbn);have HFbn:=hd_ (HFb.out);refine hK.out _ _ (⟨(HYn.out.cell 1).trans rfl,(HYn.out.cell 2).trans (by show some y.O=_;rw[EO.out]),HC0.out.below HBn.out hbw⟩) (fun hH=>?_);refine mN ?_;exact mH (st8 (b14,b15,b16) wn ⟨HYn,HBn,HA,HAb,HEn,HEbn,HFn,HFbn⟩)
 refine join_ (σ:=Nat) 12 (bt 21 16639) (fun s=>match s with|b14=>[(7,.pointer (some ⟨b14,0,none⟩))]) (fun s w'=>match s with|b14=>Hid (Cel w' w.heap.size 130 (cmC y))/\Hid (Bl w w')/\Hid (Cel w' b14 45 zvw)/\Hid (w.heap.size<=b14/\b≠b14/\w.heap.size≠b14)) ?_ (fun st12=>?_)
 · rintro b14 wc ⟨HY,HB,HA,HAb⟩;refine mE ?_;have hH:=trivial;refine three_ (i:=8) (j:=15) (k:=16) (Ni:=some 34) (Nj:=some 8) (Nk:=some 9) (bt 21 16895) (bt 21 49407) (bt 21 82175) rfl rfl rfl rfl rfl rfl kk dd dd dd (fun K hK=>?_) (fun K hK=>?_) (fun K hK=>?_);(· refine goes_ func94 kk rfl #[.agg (vw x.e x.t x.ad x.k x.ch).toArray,.int .i64 y.f,.slice AO nO cO] rr rfl rfl mL ?_;refine(apply_any x.e x.k y.f x.t x.ch x.ad AO nO cO lO _ HOk.out.vw (HO0.out.below HB.out) o_).mono ?_;rintro _ wn ⟨⟨z,e2,t2,ad2,k2,ch2,ai,go,rfl,hv2,hai,hgo,hzz⟩,hbn⟩;refine⟨_,rfl,?_⟩;have HR:Hid (VwOk t2 ad2 ch2/\ai.length=8/\go.length=8/\(z=0->e2=x.e)):=⟨hv2,hai,hgo,fun h=>(hzz h).1⟩;have HYn:=hd_ (HY.out.below hbn HY.out.lt);have HBn:=tb_ HB hbn;have HAn:=hd_ (HA.out.below hbn HA.out.lt);have HAbn:=hd_ (HAb.out);refine hK.out _ _ (⟨(HYn.out.cell 1).trans rfl,(HYn.out.cell 2).trans (by show some y.O=_;rw[EO.out]),HC0.out.below HBn.out hbw⟩) (fun hH=>?_);refine mN ?_;refine ts_ 9 2 9 (bt 21 18431) hH ?_;refine mD ?_;(repeat (first|(refine tk_ 45 (.tmp 28) b 0 ((vw x.e x.t x.ad x.k x.ch)) (fun _ h=>py_rg0 HOk.out h.2.2.out) underlying45 rfl hVI.out ?_)|(refine uA ?_)|(refine mB3 ?_)));refine takes_nil ?_;refine ps_ 11 3 6 (bt 21 32767) ?_;refine mT1 ?_;exact mH (st4 (z,e2,t2,ad2,k2,ch2,ai,go,b14) wn ⟨HYn,HBn,HR,HAn,HAbn⟩));(· obtain⟨wn,hwn⟩:=ex_ (wc.alloc (.cells (bools zb).toArray 41));refine value_ rr rfl (v:=.pointer (some ⟨wc.heap.size,0,none⟩)) (w1:=wn) (vv hwn) ?_;have hbn:=nb_ hwn;have hltb:=hbw;have hlty:=HY.out.lt;have hszb:=HB.out.size;obtain⟨b15,hb15⟩:=ex_ (wc.heap.size);(have HE:Hid (BoX wn b15):=by rw[hwn,hb15];exact⟨zb,rfl,Cel.new _ rfl rfl⟩);(have HEb:Hid (w.heap.size<=b15/\b≠b15/\w.heap.size≠b15):=by rw[hb15];exact⟨hszb,by omega,by omega⟩);rw[<-hb15];clear hwn hb15 hltb hlty hszb;have HYn:=hd_ (HY.out.below hbn HY.out.lt);have HBn:=tb_ HB hbn;have HAn:=hd_ (HA.out.below hbn HA.out.lt);have HAbn:=hd_ (HAb.out);refine hK.out _ _ (⟨(HYn.out.cell 1).trans rfl,(HYn.out.cell 2).trans (by show some y.O=_;rw[EO.out]),HC0.out.below HBn.out hbw⟩) (fun hH=>?_);refine mN ?_;exact mH (st9 (b14,b15) wn ⟨HYn,HBn,HAn,HAbn,HE,HEb⟩));obtain⟨wn,hwn⟩:=ex_ (wc.alloc (.cells (bools zb).toArray 41));refine value_ rr rfl (v:=.pointer (some ⟨wc.heap.size,0,none⟩)) (w1:=wn) (vv hwn) ?_;have hbn:=nb_ hwn;have hltb:=hbw;have hlty:=HY.out.lt;have hszb:=HB.out.size;obtain⟨b16,hb16⟩:=ex_ (wc.heap.size);(have HF:Hid (BoX wn b16):=by rw[hwn,hb16];exact⟨zb,rfl,Cel.new _ rfl rfl⟩);(have HFb:Hid (w.heap.size<=b16/\b≠b16/\w.heap.size≠b16):=by rw[hb16];exact⟨hszb,by omega,by omega⟩);rw[<-hb16];clear hwn hb16 hltb hlty hszb;have HYn:=hd_ (HY.out.below hbn HY.out.lt);have HBn:=tb_ HB hbn;have HAn:=hd_ (HA.out.below hbn HA.out.lt);have HAbn:=hd_ (HAb.out);refine hK.out _ _ (⟨(HYn.out.cell 1).trans rfl,(HYn.out.cell 2).trans (by show some y.O=_;rw[EO.out]),HC0.out.below HBn.out hbw⟩) (fun hH=>?_);refine mN ?_;exact mH (st10 (b14,b16) wn ⟨HYn,HBn,HAn,HAbn,HF,HFb⟩)
 refine join_ (σ:=Nat) 12 (bt 21 33023) (fun s=>match s with|b15=>[(8,.pointer (some ⟨b15,0,none⟩))]) (fun s w'=>match s with|b15=>Hid (Cel w' w.heap.size 130 (cmC y))/\Hid (Bl w w')/\Hid (BoX w' b15)/\Hid (w.heap.size<=b15/\b≠b15/\w.heap.size≠b15)) ?_ (fun st13=>?_)
 · rintro b15 wc ⟨HY,HB,HE,HEb⟩;refine mE ?_;have hH:=trivial;refine three_ (i:=8) (j:=14) (k:=16) (Ni:=some 34) (Nj:=some 7) (Nk:=some 9) (bt 21 33279) (bt 21 49407) (bt 21 98559) rfl rfl rfl rfl rfl rfl kk dd dd dd (fun K hK=>?_) (fun K hK=>?_) (fun K hK=>?_);(· refine goes_ func94 kk rfl #[.agg (vw x.e x.t x.ad x.k x.ch).toArray,.int .i64 y.f,.slice AO nO cO] rr rfl rfl mL ?_;refine(apply_any x.e x.k y.f x.t x.ch x.ad AO nO cO lO _ HOk.out.vw (HO0.out.below HB.out) o_).mono ?_;rintro _ wn ⟨⟨z,e2,t2,ad2,k2,ch2,ai,go,rfl,hv2,hai,hgo,hzz⟩,hbn⟩;refine⟨_,rfl,?_⟩;have HR:Hid (VwOk t2 ad2 ch2/\ai.length=8/\go.length=8/\(z=0->e2=x.e)):=⟨hv2,hai,hgo,fun h=>(hzz h).1⟩;have HYn:=hd_ (HY.out.below hbn HY.out.lt);have HBn:=tb_ HB hbn;have HEn:=hd_ (HE.out.below hbn);have HEbn:=hd_ (HEb.out);refine hK.out _ _ (⟨(HYn.out.cell 1).trans rfl,(HYn.out.cell 2).trans (by show some y.O=_;rw[EO.out]),HC0.out.below HBn.out hbw⟩) (fun hH=>?_);refine mN ?_;refine ts_ 9 2 9 (bt 21 34815) hH ?_;refine mD ?_;(repeat (first|(refine tk_ 45 (.tmp 28) b 0 ((vw x.e x.t x.ad x.k x.ch)) (fun _ h=>py_rg0 HOk.out h.2.2.out) underlying45 rfl hVI.out ?_)|(refine uA ?_)|(refine mB3 ?_)));refine takes_nil ?_;refine ps_ 11 3 6 (bt 21 49151) ?_;refine mT1 ?_;exact mH (st5 (z,e2,t2,ad2,k2,ch2,ai,go,b15) wn ⟨HYn,HBn,HR,HEn,HEbn⟩));(· obtain⟨wn,hwn⟩:=ex_ (wc.alloc (.cells (zvw).toArray 45));refine value_ rr rfl (v:=.pointer (some ⟨wc.heap.size,0,none⟩)) (w1:=wn) (vv hwn) ?_;have hbn:=nb_ hwn;have hltb:=hbw;have hlty:=HY.out.lt;have hszb:=HB.out.size;obtain⟨b14,hb14⟩:=ex_ (wc.heap.size);(have HA:Hid (Cel wn b14 45 zvw):=by rw[hwn,hb14];exact Cel.new _ rfl rfl);(have HAb:Hid (w.heap.size<=b14/\b≠b14/\w.heap.size≠b14):=by rw[hb14];exact⟨hszb,by omega,by omega⟩);rw[<-hb14];clear hwn hb14 hltb hlty hszb;have HYn:=hd_ (HY.out.below hbn HY.out.lt);have HBn:=tb_ HB hbn;have HEn:=hd_ (HE.out.below hbn);have HEbn:=hd_ (HEb.out);refine hK.out _ _ (⟨(HYn.out.cell 1).trans rfl,(HYn.out.cell 2).trans (by show some y.O=_;rw[EO.out]),HC0.out.below HBn.out hbw⟩) (fun hH=>?_);refine mN ?_;exact mH (st9 (b14,b15) wn ⟨HYn,HBn,HA,HAb,HEn,HEbn⟩));obtain⟨wn,hwn⟩:=ex_ (wc.alloc (.cells (bools zb).toArray 41));refine value_ rr rfl (v:=.pointer (some ⟨wc.heap.size,0,none⟩)) (w1:=wn) (vv hwn) ?_;have hbn:=nb_ hwn;have hltb:=hbw;have hlty:=HY.out.lt;have hszb:=HB.out.size;obtain⟨b16,hb16⟩:=ex_ (wc.heap.size);(have HF:Hid (BoX wn b16):=by rw[hwn,hb16];exact⟨zb,rfl,Cel.new _ rfl rfl⟩);(have HFb:Hid (w.heap.size<=b16/\b≠b16/\w.heap.size≠b16):=by rw[hb16];exact⟨hszb,by omega,by omega⟩);rw[<-hb16];clear hwn hb16 hltb hlty hszb;have HYn:=hd_ (HY.out.below hbn HY.out.lt);have HBn:=tb_ HB hbn;have HEn:=hd_ (HE.out.below hbn);have HEbn:=hd_ (HEb.out);refine hK.out _ _ (⟨(HYn.out.cell 1).trans rfl,(HYn.out.cell 2).trans (by show some y.O=_;rw[EO.out]),HC0.out.below HBn.out hbw⟩) (fun hH=>?_);refine mN ?_;exact mH (st11 (b15,b16) wn ⟨HYn,HBn,HEn,HEbn,HF,HFb⟩)
 refine join_ (σ:=Nat) 12 (bt 21 65791) (fun s=>match s with|b16=>[(9,.pointer (some ⟨b16,0,none⟩))]) (fun s w'=>match s with|b16=>Hid (Cel w' w.heap.size 130 (cmC y))/\Hid (Bl w w')/\Hid (BoX w' b16)/\Hid (w.heap.size<=b16/\b≠b16/\w.heap.size≠b16)) ?_ (fun st14=>?_)
 · rintro b16 wc ⟨HY,HB,HF,HFb⟩;refine mE ?_;have hH:=trivial;refine three_ (i:=8) (j:=14) (k:=15) (Ni:=some 34) (Nj:=some 7) (Nk:=some 8) (bt 21 66047) (bt 21 82175) (bt 21 98559) rfl rfl rfl rfl rfl rfl kk dd dd dd (fun K hK=>?_) (fun K hK=>?_) (fun K hK=>?_);(· refine goes_ func94 kk rfl #[.agg (vw x.e x.t x.ad x.k x.ch).toArray,.int .i64 y.f,.slice AO nO cO] rr rfl rfl mL ?_;refine(apply_any x.e x.k y.f x.t x.ch x.ad AO nO cO lO _ HOk.out.vw (HO0.out.below HB.out) o_).mono ?_;rintro _ wn ⟨⟨z,e2,t2,ad2,k2,ch2,ai,go,rfl,hv2,hai,hgo,hzz⟩,hbn⟩;refine⟨_,rfl,?_⟩;have HR:Hid (VwOk t2 ad2 ch2/\ai.length=8/\go.length=8/\(z=0->e2=x.e)):=⟨hv2,hai,hgo,fun h=>(hzz h).1⟩;have HYn:=hd_ (HY.out.below hbn HY.out.lt);have HBn:=tb_ HB hbn;have HFn:=hd_ (HF.out.below hbn);have HFbn:=hd_ (HFb.out);refine hK.out _ _ (⟨(HYn.out.cell 1).trans rfl,(HYn.out.cell 2).trans (by show some y.O=_;rw[EO.out]),HC0.out.below HBn.out hbw⟩) (fun hH=>?_);refine mN ?_;refine ts_ 9 2 9 (bt 21 67583) hH ?_;refine mD ?_;(repeat (first|(refine tk_ 45 (.tmp 28) b 0 ((vw x.e x.t x.ad x.k x.ch)) (fun _ h=>py_rg0 HOk.out h.2.2.out) underlying45 rfl hVI.out ?_)|(refine uA ?_)|(refine mB3 ?_)));refine takes_nil ?_;refine ps_ 11 3 6 (bt 21 81919) ?_;refine mT1 ?_;exact mH (st6 (z,e2,t2,ad2,k2,ch2,ai,go,b16) wn ⟨HYn,HBn,HR,HFn,HFbn⟩));(· obtain⟨wn,hwn⟩:=ex_ (wc.alloc (.cells (zvw).toArray 45));refine value_ rr rfl (v:=.pointer (some ⟨wc.heap.size,0,none⟩)) (w1:=wn) (vv hwn) ?_;have hbn:=nb_ hwn;have hltb:=hbw;have hlty:=HY.out.lt;have hszb:=HB.out.size;obtain⟨b14,hb14⟩:=ex_ (wc.heap.size);(have HA:Hid (Cel wn b14 45 zvw):=by rw[hwn,hb14];exact Cel.new _ rfl rfl);(have HAb:Hid (w.heap.size<=b14/\b≠b14/\w.heap.size≠b14):=by rw[hb14];exact⟨hszb,by omega,by omega⟩);rw[<-hb14];clear hwn hb14 hltb hlty hszb;have HYn:=hd_ (HY.out.below hbn HY.out.lt);have HBn:=tb_ HB hbn;have HFn:=hd_ (HF.out.below hbn);have HFbn:=hd_ (HFb.out);refine hK.out _ _ (⟨(HYn.out.cell 1).trans rfl,(HYn.out.cell 2).trans (by show some y.O=_;rw[EO.out]),HC0.out.below HBn.out hbw⟩) (fun hH=>?_);refine mN ?_;exact mH (st10 (b14,b16) wn ⟨HYn,HBn,HA,HAb,HFn,HFbn⟩));obtain⟨wn,hwn⟩:=ex_ (wc.alloc (.cells (bools zb).toArray 41));refine value_ rr rfl (v:=.pointer (some ⟨wc.heap.size,0,none⟩)) (w1:=wn) (vv hwn) ?_;have hbn:=nb_ hwn;have hltb:=hbw;have hlty:=HY.out.lt;have hszb:=HB.out.size;obtain⟨b15,hb15⟩:=ex_ (wc.heap.size);(have HE:Hid (BoX wn b15):=by rw[hwn,hb15];exact⟨zb,rfl,Cel.new _ rfl rfl⟩);(have HEb:Hid (w.heap.size<=b15/\b≠b15/\w.heap.size≠b15):=by rw[hb15];exact⟨hszb,by omega,by omega⟩);rw[<-hb15];clear hwn hb15 hltb hlty hszb;have HYn:=hd_ (HY.out.below hbn HY.out.lt);have HBn:=tb_ HB hbn;have HFn:=hd_ (HF.out.below hbn);have HFbn:=hd_ (HFb.out);refine hK.out _ _ (⟨(HYn.out.cell 1).trans rfl,(HYn.out.cell 2).trans (by show some y.O=_;rw[EO.out]),HC0.out.below HBn.out hbw⟩) (fun hH=>?_);refine mN ?_;exact mH (st11 (b15,b16) wn ⟨HYn,HBn,HE,HEb,HFn,HFbn⟩)
 have hH:=trivial;refine four_ (i:=8) (j:=14) (k:=15) (m:=16) (Ni:=some 34) (Nj:=some 7) (Nk:=some 8) (Nm:=some 9) (bt 21 511) (bt 21 16639) (bt 21 33023) (bt 21 65791) rfl rfl rfl rfl rfl rfl rfl rfl kk dd dd dd dd (fun K hK=>?_) (fun K hK=>?_) (fun K hK=>?_) (fun K hK=>?_)
 · refine goes_ func94 kk rfl #[.agg (vw x.e x.t x.ad x.k x.ch).toArray,.int .i64 y.f,.slice AO nO cO] rr rfl rfl mL ?_;refine(apply_any x.e x.k y.f x.t x.ch x.ad AO nO cO lO _ HOk.out.vw (HO0.out.below HB.out) o_).mono ?_;rintro _ wn ⟨⟨z,e2,t2,ad2,k2,ch2,ai,go,rfl,hv2,hai,hgo,hzz⟩,hbn⟩;refine⟨_,rfl,?_⟩;have HR:Hid (VwOk t2 ad2 ch2/\ai.length=8/\go.length=8/\(z=0->e2=x.e)):=⟨hv2,hai,hgo,fun h=>(hzz h).1⟩;have HYn:=hd_ (HY.out.below hbn HY.out.lt);have HBn:=tb_ HB hbn;refine hK.out _ _ (⟨(HYn.out.cell 1).trans rfl,(HYn.out.cell 2).trans (by show some y.O=_;rw[EO.out]),HC0.out.below HBn.out hbw⟩) (fun hH=>?_);refine mN ?_;refine ts_ 9 2 10 (bt 21 2047) hH ?_;refine mD ?_;(repeat (first|(refine tk_ 45 (.tmp 28) b 0 ((vw x.e x.t x.ad x.k x.ch)) (fun _ h=>py_rg0 HOk.out h.2.2.out) underlying45 rfl hVI.out ?_)|(refine uA ?_)|(refine mB3 ?_)));refine takes_nil ?_;refine ps_ 11 3 7 (bt 21 16383) ?_;refine mT1 ?_;exact mH (st7 (z,e2,t2,ad2,k2,ch2,ai,go) wn ⟨HYn,HBn,HR⟩)
 · obtain⟨wn,hwn⟩:=ex_ (w1d.alloc (.cells (zvw).toArray 45));refine value_ rr rfl (v:=.pointer (some ⟨w1d.heap.size,0,none⟩)) (w1:=wn) (vv hwn) ?_;have hbn:=nb_ hwn;have hltb:=hbw;have hlty:=HY.out.lt;have hszb:=HB.out.size;obtain⟨b14,hb14⟩:=ex_ (w1d.heap.size);(have HA:Hid (Cel wn b14 45 zvw):=by rw[hwn,hb14];exact Cel.new _ rfl rfl);(have HAb:Hid (w.heap.size<=b14/\b≠b14/\w.heap.size≠b14):=by rw[hb14];exact⟨hszb,by omega,by omega⟩);rw[<-hb14];clear hwn hb14 hltb hlty hszb;have HYn:=hd_ (HY.out.below hbn HY.out.lt);have HBn:=tb_ HB hbn;refine hK.out _ _ (⟨(HYn.out.cell 1).trans rfl,(HYn.out.cell 2).trans (by show some y.O=_;rw[EO.out]),HC0.out.below HBn.out hbw⟩) (fun hH=>?_);refine mN ?_;exact mH (st12 b14 wn ⟨HYn,HBn,HA,HAb⟩)
 · obtain⟨wn,hwn⟩:=ex_ (w1d.alloc (.cells (bools zb).toArray 41));refine value_ rr rfl (v:=.pointer (some ⟨w1d.heap.size,0,none⟩)) (w1:=wn) (vv hwn) ?_;have hbn:=nb_ hwn;have hltb:=hbw;have hlty:=HY.out.lt;have hszb:=HB.out.size;obtain⟨b15,hb15⟩:=ex_ (w1d.heap.size);(have HE:Hid (BoX wn b15):=by rw[hwn,hb15];exact⟨zb,rfl,Cel.new _ rfl rfl⟩);(have HEb:Hid (w.heap.size<=b15/\b≠b15/\w.heap.size≠b15):=by rw[hb15];exact⟨hszb,by omega,by omega⟩);rw[<-hb15];clear hwn hb15 hltb hlty hszb;have HYn:=hd_ (HY.out.below hbn HY.out.lt);have HBn:=tb_ HB hbn;refine hK.out _ _ (⟨(HYn.out.cell 1).trans rfl,(HYn.out.cell 2).trans (by show some y.O=_;rw[EO.out]),HC0.out.below HBn.out hbw⟩) (fun hH=>?_);refine mN ?_;exact mH (st13 b15 wn ⟨HYn,HBn,HE,HEb⟩)
 obtain⟨wn,hwn⟩:=ex_ (w1d.alloc (.cells (bools zb).toArray 41));refine value_ rr rfl (v:=.pointer (some ⟨w1d.heap.size,0,none⟩)) (w1:=wn) (vv hwn) ?_;have hbn:=nb_ hwn;have hltb:=hbw;have hlty:=HY.out.lt;have hszb:=HB.out.size;obtain⟨b16,hb16⟩:=ex_ (w1d.heap.size);have HF:Hid (BoX wn b16):=by rw[hwn,hb16];exact⟨zb,rfl,Cel.new _ rfl rfl⟩
 have HFb:Hid (w.heap.size<=b16/\b≠b16/\w.heap.size≠b16):=by rw[hb16];exact⟨hszb,by omega,by omega⟩
 rw[<-hb16];clear hwn hb16 hltb hlty hszb;have HYn:=hd_ (HY.out.below hbn HY.out.lt);have HBn:=tb_ HB hbn;refine hK.out _ _ (⟨(HYn.out.cell 1).trans rfl,(HYn.out.cell 2).trans (by show some y.O=_;rw[EO.out]),HC0.out.below HBn.out hbw⟩) (fun hH=>?_);refine mN ?_;exact mH (st14 b16 wn ⟨HYn,HBn,HF,HFb⟩)
end Go.Proofs.YtppjnahcnofokaaGreat.T
namespace Go.Proofs.YtppjnahcnofokaaGreat.T
open Go.RowKit Go.Proofs.YtppjnahcnofokaaGreatW.PrintLast
open Go.Proofs.Tryz
variable{k:IntKind}{a:Act}{b i n B base m fuel D B':Nat}{l ch:List Int}{w w' w1 w2:World}{t:TypeId}{P:Program}{cs xs vs l3:List Value}{A A':Option Addr}{o oi:Oper}{e s f st fl:Int}{ops:Array Oper}{rest l0:List Oper}{v:Value}{r:Option Nat}{rs rs2:List (Option Addr×Nat×Nat×List Int)}{E:Prop}{ad ai go:List Bool}{N:Act->Prop}{place:Nat->Option (Nat×Nat)}{bad:Bool}{es es':List (Int×List Int)}{T:List TypeId}
def BsR(w:World)(r:Ending)(w':World):Prop:=∃A n c e,r=.returned (.tuple #[.slice A n c,.int .i64 e])/\(∃B rs,w.heap.size<=B/\BxS w' B (.slice A n c) n rs)/\n<=24
theorem boxes_any(b:Nat)(x:PyP)(e k:Int)(t ch:List Int)(ad bu:List Bool)(p:List Int)(w:World)(hc:Cel w b 82 (pyC x))(hok:PyOk x)(hv:VwOk t ad ch)(hbu:bu.length=8)(hp:p.length=32):Calls prog 103 #[.pointer (some ⟨b,0,none⟩),.agg (vw e t ad k ch).toArray,.agg (bools bu).toArray,.agg (ints .u8 p).toArray] w fun r w'=>BsR w r w'/\Bl w w':=by
 obtain⟨w1,hW⟩:=ex_ ((((w.alloc (.cells (vw e t ad k ch).toArray 45)).alloc (.cells (bools bu).toArray 41)).alloc (.cells (ints .u8 p).toArray 43)));have hb1:Bl w w1:=by rw[hW];exact bal (bal b0_)
 have HB1:=hd_ hb1;have HV1:Hid (Cel w1 w.heap.size 45 (vw e t ad k ch)):=by rw[hW];exact((Cel.new _ rfl rfl).alloc _).alloc _
 have HU1:Hid (Cel w1 (w.heap.size+1) 41 (bools bu)):=by rw[hW];exact(Cel.new _ s_ rfl).alloc _
 have HP1:Hid (Blk w1 (w.heap.size+2) .u8 43 p):=by rw[hW];exact blk_new _ .u8 43 p _ s_
 have HC0:=hd_ hc;have HOk:=hd_ hok;have HV:=hd_ hv;have HU:=hd_ hbu;have HPp:=hd_ hp;have hbw:b<w.heap.size:=hc.lt;obtain⟨mm,hmm⟩:=Int.eq_ofNat_of_zero_le hok.lf.1;have HMM:=hd_ hmm;have HW:=hd_ hW;clear hW hb1 hc hok hv hbu hp hmm;go_enter func103,ntmps103
 go_wp2_with fail;refine pr_ 0 10 (bt 10 0) fun w1d hw1d=>?_;refine mG ?_;have hV:Hid (Cel w1d w.heap.size 45 (vw e t ad k ch)):=by rw[<-hw1d,<- HW.out];exact HV1.out.drew
 have hU:Hid (Cel w1d (w.heap.size+1) 41 (bools bu)):=by rw[<-hw1d,<- HW.out];exact HU1.out.drew
 have hP:Hid (Blk w1d (w.heap.size+2) .u8 43 p):=by rw[<-hw1d,<- HW.out];exact HP1.out.drew
 have hB:Hid (Bl w w1d):=by rw[<-hw1d,<- HW.out];exact HB1.out.drew
 have hH:(fun w'=>w'.cell? ⟨b,73,none⟩=some (.int .i64 mm)/\Hid (Cel w' w.heap.size 45 (vw e t ad k ch))/\Hid (Cel w' (w.heap.size+1) 41 (bools bu))) w1d:=⟨((HC0.out.below hB.out hbw).cell 73).trans ((py_lf HOk.out).trans (by rw[HMM.out])),hV,hU⟩;clear hw1d;refine wpAny_of_last (S:=fun w'=>w'.cell? ⟨b,73,none⟩=some (.int .i64 mm)/\Hid (Cel w' w.heap.size 45 (vw e t ad k ch))/\Hid (Cel w' (w.heap.size+1) 41 (bools bu))) (ds:=[]) _ _ _ _ ?_;refine ts_ 0 7 3 (bt 10 127) hH ?_;refine mD ?_;repeat (first|(refine tk_ 40 (.tmp 15) w.heap.size 1 (ints .i64 t) (fun _ h=>vw_trange HV.out h.2.1.out) underlying40 rfl (hi40 HV.out.tree).out ?_)|(refine tk_ 41 (.tmp 6) (w.heap.size+1) 0 (bools bu) (fun _ h=>h.2.2.out.all) underlying41 rfl (hi41 HU.out) ?_)|(refine uA ?_)|(refine mB3 ?_))
 refine takes_nil ?_;refine ts_ 9 1 2 (bt 10 639) hH ?_;refine mD ?_;repeat (first|(refine tk_ 40 (.tmp 15) w.heap.size 1 (ints .i64 t) (fun _ h=>vw_trange HV.out h.2.1.out) underlying40 rfl (hi40 HV.out.tree).out ?_)|(refine tk_ 41 (.tmp 6) (w.heap.size+1) 0 (bools bu) (fun _ h=>h.2.2.out.all) underlying41 rfl (hi41 HU.out) ?_)|(refine uA ?_)|(refine mB3 ?_))
 refine takes_nil ?_;refine one_ (i:=7) (N:=some 22) (bt 10 767) rfl rfl kk dd (fun K hK=>?_);refine goes_ func129 kk rfl #[.agg (ints .i64 t).toArray,.int .i64 mm,.agg (bools bu).toArray] rr rfl rfl mL ?_;refine(plan_any t mm bu _ HV.out.tree HU.out).mono ?_;rintro _ w2 ⟨⟨A,m,c,l,rfl,hm24,hrg,hprs⟩,hb⟩;refine⟨_,rfl,?_⟩;have HRg:=hd_ hrg;have HPrs:=hd_ hprs;have HV2:=hd_ (hV.out.below hb hV.out.lt);have HU2:=hd_ (hU.out.below hb hU.out.lt);have HP2:=hd_ (hP.out.below hb hP.out.lt);have HB2:=tb_ hB hb;refine hK.out _ _ ⟨((HC0.out.below HB2.out hbw).cell 73).trans ((py_lf HOk.out).trans (by rw[HMM.out])),HV2,HU2⟩ (fun hH=>?_);clear hK K hb hrg hprs hV hU hP hB;refine mN ?_;refine ts_ 8 1 0 (bt 10 1023) hH ?_;refine mD ?_;repeat (first|(refine tk_ 40 (.tmp 15) w.heap.size 1 (ints .i64 t) (fun _ h=>vw_trange HV.out h.2.1.out) underlying40 rfl (hi40 HV.out.tree).out ?_)|(refine tk_ 41 (.tmp 6) (w.heap.size+1) 0 (bools bu) (fun _ h=>h.2.2.out.all) underlying41 rfl (hi41 HU.out) ?_)|(refine uA ?_)|(refine mB3 ?_))
 refine takes_nil ?_;refine done_ kk ?_;clear hH;have hs2:w.heap.size+2<w2.heap.size:=HP2.out.lt;go_wp2_with fail;go_loopw [10,24] (fun vx v wr=>∃(i:Nat) (A3:Option Addr) (c3:Nat),v=.int .i64 i/\vx=.slice A3 i c3/\i<=m/\Hid (∃rs,BxS wr w2.heap.size (.slice A3 i c3) i rs)/\Hid (Bl w2 wr)) (fun _ v _=>m-(intOf v).toNat)
 case atStart=>exact⟨0,none,0,rfl,rfl,Nat.zero_le _,⟨[],⟨RowsO.nil _ _,fun r h=>(by cases h),fun r h=>(by cases h)⟩⟩,Below.refl _ _⟩
 case round=>
  clear HV1 HU1 HP1 HB1
  obtain⟨wa,rfl⟩:=ex_ (wr)
  obtain⟨i,A3,c3,rfl,rfl,hi,HX,HB⟩:=hrel
  have hsz:=HB.out.size
  by_cases hlt:i<m
  · obtain⟨pa,pb,hpa,hpb,hpa0,hpa3⟩:=HPrs.out i hlt;obtain⟨pn,rfl⟩:=Int.eq_ofNat_of_zero_le hpa0;(have hpn3:pn<3:=by omega);(have hpni:(pn:Int)<3:=by omega);obtain⟨qb,qo,rfl,hql,hqr⟩:=HRg.out.at_ (by have:=HRg.out.cap;omega);have hcap:=HRg.out.cap;have k0:wa.cell? ⟨qb,qo+i*2,none⟩=some (.int .i64 pn):=(HB.out.cell (p:=⟨qb,qo+i*2,none⟩) hql).trans (hqr (i*2) _ (ints_get hpa));have k1:wa.cell? ⟨qb,qo+i*2+1,none⟩=some (.int .i64 pb):=(HB.out.cell (p:=⟨qb,qo+i*2+1,none⟩) hql).trans (by have:=hqr (i*2+1) _ (ints_get hpb);rwa [<-Nat.add_assoc]at this);obtain⟨W4,hW4⟩:=ex_ (wa.alloc (.cells #[.int .i64 pn,.int .i64 pb] 235));have hb4:=nb_ hW4;have HB4:=hd_ (HB.out.trans (hb4.mono hsz));(have HT4:Hid (Blk W4 wa.heap.size .i64 235 [(pn:Int),pb]):=by rw[hW4];exact blk_new wa .i64 235 [(pn:Int),pb] _ rfl);obtain⟨rs,hX⟩:=HX.out;have HX4:=hd_ (hX.below hb4);have HV4:=hd_ (HV2.out.below HB4.out HV2.out.lt);have HP4:=hd_ (HP2.out.below HB4.out HP2.out.lt);have HFar:Hid (∀k,(Value.slice A3 i c3).ownBlock=some k->k<wa.heap.size):=fun k hk=>(hX.rows.own.lt k hk).2;have HW4:=hd_ hW4;clear hqr hpa hpb hW4 hb4 HX hX hpa0 hpa3;go_wp2_with fail;refine pr_ 0 23 (bt 23 0) fun w1d hw1d=>?_;refine mG ?_;(have hT:Hid (Blk w1d wa.heap.size .i64 235 [(pn:Int),pb]):=by rw[<-hw1d,<- HW4.out];exact HT4.out.drew);(have hV:Hid (Cel w1d w.heap.size 45 (vw e t ad k ch)):=by rw[<-hw1d,<- HW4.out];exact HV4.out.drew);(have hP:Hid (Blk w1d (w.heap.size+2) .u8 43 p):=by rw[<-hw1d,<- HW4.out];exact HP4.out.drew);(have hB:Hid (Bl w2 w1d):=by rw[<-hw1d,<- HW4.out];exact HB4.out.drew);(have hX:Hid (BxS w1d w2.heap.size (.slice A3 i c3) i rs):=by rw[<-hw1d,<- HW4.out];exact HX4.out.below (Below.refl _ _).drew);have hF:wa.heap.size<w1d.heap.size:=hT.out.lt;have hH:(fun w'=>w'.cell? ⟨wa.heap.size,0,none⟩=some (.int .i64 pn)/\w'.cell? ⟨wa.heap.size,1,none⟩=some (.int .i64 pb)/\Hid (Cel w' w.heap.size 45 (vw e t ad k ch))/\Hid (Blk w' (w.heap.size+2) .u8 43 p)) w1d:=⟨hT.out.cell rfl,hT.out.cell rfl,hV,hP⟩;clear hw1d HT4 HV4 HP4 HB4 HX4 HW4;refine wpAny_of_last (S:=fun w'=>w'.cell? ⟨wa.heap.size,0,none⟩=some (.int .i64 pn)/\w'.cell? ⟨wa.heap.size,1,none⟩=some (.int .i64 pb)/\Hid (Cel w' w.heap.size 45 (vw e t ad k ch))/\Hid (Blk w' (w.heap.size+2) .u8 43 p)) (ds:=[21,22]) _ _ _ _ ?_;refine ts_ 0 4 19 (bt 23 15) hH ?_;refine mD ?_;(repeat (first|(refine tk_ 40 (.tmp 30) w.heap.size 1 (ints .i64 t) (fun _ h=>vw_trange HV.out h.2.2.1.out) underlying40 rfl (hi40 HV.out.tree).out ?_)|(refine tk_ 43 (.tmp 7) (w.heap.size+2) 0 (ints .u8 p) (fun _ h=>h.2.2.2.out.range) underlying43 rfl (hi43 HPp.out).out ?_)|(refine uA ?_)|(refine mB4 ?_)));refine takes_nil ?_;refine ts_ 5 2 17 (bt 23 111) hH ?_;refine mD ?_;(repeat (first|(refine tk_ 40 (.tmp 30) w.heap.size 1 (ints .i64 t) (fun _ h=>vw_trange HV.out h.2.2.1.out) underlying40 rfl (hi40 HV.out.tree).out ?_)|(refine tk_ 43 (.tmp 7) (w.heap.size+2) 0 (ints .u8 p) (fun _ h=>h.2.2.2.out.range) underlying43 rfl (hi43 HPp.out).out ?_)|(refine uA ?_)|(refine mB4 ?_)));refine takes_nil ?_;refine ts_ 10 7 10 (bt 23 130159) hH ?_;refine mD ?_;(repeat (first|(refine tk_ 40 (.tmp 30) w.heap.size 1 (ints .i64 t) (fun _ h=>vw_trange HV.out h.2.2.1.out) underlying40 rfl (hi40 HV.out.tree).out ?_)|(refine tk_ 43 (.tmp 7) (w.heap.size+2) 0 (ints .u8 p) (fun _ h=>h.2.2.2.out.range) underlying43 rfl (hi43 HPp.out).out ?_)|(refine uA ?_)|(refine mB4 ?_)));refine takes_nil ?_;refine one_ (i:=4) (N:=some 34) (bt 23 130175) rfl rfl kk dd (fun K hK=>?_);refine goes_ func162 kk rfl #[.agg (ints .i64 t).toArray,.int .i64 pb] rr rfl rfl mL ?_;refine(key_any t pb _ HV.out.tree).mono ?_;rintro _ wx ⟨⟨kx,rfl⟩,hb⟩;refine⟨_,rfl,?_⟩;have mT:=hd_ (hT.out.below hb hT.out.lt);have mV:=hd_ (hV.out.below hb hV.out.lt);have mP:=hd_ (hP.out.below hb hP.out.lt);have mB:=tb_ hB hb;have mX:=hd_ (hX.out.below hb);replace hF:=Nat.lt_of_lt_of_le hF hb.size;clear hT hV hP hB hX;obtain⟨hT,hV,hP,hB,hX⟩:=And.intro mT (And.intro mV (And.intro mP (And.intro mB mX)));clear mT mV mP mB mX;refine hK.out _ _ ⟨hT.out.cell rfl,hT.out.cell rfl,hV,hP⟩ (fun hH=>?_);clear hK K hb;refine mN ?_;refine one_ (i:=7) (N:=some 37) (bt 23 130303) rfl rfl kk dd (fun K hK=>?_);refine goes_ func38 kk rfl #[.int .i64 i] rr rfl rfl mL ?_;refine(num_any i _).mono ?_;rintro _ wy ⟨⟨A5,c5,l5,rfl,ho5,hl5⟩,hb⟩;refine⟨_,rfl,?_⟩;have H5:Hid (Rd wy .u8 A5 8 c5 l5):=rd_own ho5 hl5;have mT:=hd_ (hT.out.below hb hT.out.lt);have mV:=hd_ (hV.out.below hb hV.out.lt);have mP:=hd_ (hP.out.below hb hP.out.lt);have mB:=tb_ hB hb;have mX:=hd_ (hX.out.below hb);replace hF:=Nat.lt_of_lt_of_le hF hb.size;clear hT hV hP hB hX;obtain⟨hT,hV,hP,hB,hX⟩:=And.intro mT (And.intro mV (And.intro mP (And.intro mB mX)));clear mT mV mP mB mX;refine hK.out _ _ ⟨hT.out.cell rfl,hT.out.cell rfl,hV,hP⟩ (fun hH=>?_);clear hK K hb ho5 hl5;refine mN ?_;refine one_ (i:=8) (N:=some 38) (bt 23 130559) rfl rfl kk dd (fun K hK=>?_);obtain⟨wn,hwn⟩:=ex_ (wy.alloc (.cells #[.slice A5 8 c5] 31));refine value_ rr rfl (v:=.slice (some ⟨wy.heap.size,0,none⟩) 1 1) (w1:=wn) (by rw[hwn];go_simp) ?_;have hb:=nb_ hwn;(have H6:Hid (RdR wn (some ⟨wy.heap.size,0,none⟩) 1 1 60000 [(A5,8,c5,l5)]):=by rw[hwn];exact rdr_new wy [(A5,8,c5,l5)] _ 1 rfl rfl (fun r hr=>by simp at hr;subst hr;exact⟨H5.out,by show 8<=_;omega⟩));have mT:=hd_ (hT.out.below hb hT.out.lt);have mV:=hd_ (hV.out.below hb hV.out.lt);have mP:=hd_ (hP.out.below hb hP.out.lt);have mB:=tb_ hB hb;have mX:=hd_ (hX.out.below hb);replace hF:=Nat.lt_of_lt_of_le hF hb.size;clear hT hV hP hB hX;obtain⟨hT,hV,hP,hB,hX⟩:=And.intro mT (And.intro mV (And.intro mP (And.intro mB mX)));clear mT mV mP mB mX;refine hK.out _ _ ⟨hT.out.cell rfl,hT.out.cell rfl,hV,hP⟩ (fun hH=>?_);clear hK K hb hwn;refine mN ?_;refine one_ (i:=9) (N:=some 39) (bt 23 131071) rfl rfl kk dd (fun K hK=>?_);refine goes_ func37 kk rfl #[.agg (ints .u8 p).toArray,.string ⟨#[98,111,120]⟩,.slice (some ⟨wy.heap.size,0,none⟩) 1 1] rr rfl rfl mL ?_;refine(derive_any p _ _ 1 1 _ _ HPp.out dd H6.out o_).mono ?_;rintro _ wz ⟨⟨ld,hld,rfl⟩,hb⟩;refine⟨_,rfl,?_⟩;have HLd:=hd_ hld;have mT:=hd_ (hT.out.below hb hT.out.lt);have mV:=hd_ (hV.out.below hb hV.out.lt);have mP:=hd_ (hP.out.below hb hP.out.lt);have mB:=tb_ hB hb;have mX:=hd_ (hX.out.below hb);replace hF:=Nat.lt_of_lt_of_le hF hb.size;clear hT hV hP hB hX;obtain⟨hT,hV,hP,hB,hX⟩:=And.intro mT (And.intro mV (And.intro mP (And.intro mB mX)));clear mT mV mP mB mX;refine hK.out _ _ ⟨hT.out.cell rfl,hT.out.cell rfl,hV,hP⟩ (fun hH=>?_);clear hK K hb hld H5 H6;refine mN ?_;refine one_ (i:=17) (N:=some 47) (bt 23 262143) rfl rfl kk dd (fun K hK=>?_);refine goes_ func161 kk rfl #[.int .i64 kx,.agg (ints .u8 ld).toArray,.slice (some ⟨b,110+pn*32,none⟩) 32 32] rr rfl rfl mL ?_;have hC:=(HC0.out.below HB2.out hbw).below hB.out o_;have hRd:Rd wz .u8 (some ⟨b,110+pn*32,none⟩) 32 32 ((x.nd.drop (pn*32)).take 32):=⟨py_nl HOk.out pn hpn3,Nat.le_refl _,fun _=>⟨_,_,rfl,hC.lt,py_nr HOk.out hC pn hpn3⟩⟩;refine(seal_any kx ld _ 32 32 _ _ HLd.out hRd o_).mono ?_;rintro _ wv ⟨⟨A9,m9,c9,e9,rfl,ho9,hm9⟩,hb⟩;refine⟨_,rfl,?_⟩;have HO9:=hd_ ho9;have hFz:=hF;have mT:=hd_ (hT.out.below hb hT.out.lt);have mV:=hd_ (hV.out.below hb hV.out.lt);have mP:=hd_ (hP.out.below hb hP.out.lt);have mB:=tb_ hB hb;have mX:=hd_ (hX.out.below hb);replace hF:=Nat.lt_of_lt_of_le hF hb.size;clear hT hV hP hB hX;obtain⟨hT,hV,hP,hB,hX⟩:=And.intro mT (And.intro mV (And.intro mP (And.intro mB mX)));clear mT mV mP mB mX;refine hK.out _ _ ⟨hT.out.cell rfl,hT.out.cell rfl,hV,hP⟩ (fun hH=>?_);clear hK K hb ho9 hC hRd;refine mN ?_;refine ts_ 18 2 3 (bt 23 1048575) hH ?_;refine mD ?_;(repeat (first|(refine tk_ 40 (.tmp 30) w.heap.size 1 (ints .i64 t) (fun _ h=>vw_trange HV.out h.2.2.1.out) underlying40 rfl (hi40 HV.out.tree).out ?_)|(refine tk_ 43 (.tmp 7) (w.heap.size+2) 0 (ints .u8 p) (fun _ h=>h.2.2.2.out.range) underlying43 rfl (hi43 HPp.out).out ?_)|(refine uA ?_)|(refine mB4 ?_)));refine takes_nil ?_;refine ps_ 20 1 2 (bt 23 2097151) ?_;refine mT1 ?_;refine tl_ 21 ?_;refine mF ?_;clear hH;have hBw:Bl w wv:=HB2.out.trans (hB.out.mono HB2.out.size);have HBw:=hd_ hBw;clear hBw;by_cases he9:e9=0;rotate_left;(· go_wp2_with fail;refine bodyPost_ret (v:=.tuple #[.slice none 0 0,.int .i64 e9]) (by simp[results,results103,asAddr,Act.put]) rfl ⟨⟨none,0,0,e9,rfl,⟨w.heap.size,[],Nat.le_refl _,⟨RowsO.nil _ _,fun r h=>(by cases h),fun r h=>(by cases h)⟩⟩,by omega⟩,HBw.out⟩);subst he9;obtain⟨l9,hl9⟩:=HO9.out.rd;obtain⟨wn,hwn⟩:=ex_ (wv.alloc (.cells #[.slice A9 m9 c9] 31));have hbn:=nb_ hwn;(have HN:Hid (RdR wn (some ⟨wv.heap.size,0,none⟩) 1 1 60000 [(A9,m9,c9,l9)]):=by rw[hwn];exact rdr_new wv [(A9,m9,c9,l9)] _ 1 rfl rfl (fun r hr=>by simp at hr;subst hr;exact⟨hl9,by show m9<=_;omega⟩));have HXn:=hd_ (hX.out.below hbn);have HBn:=tb_ hB hbn;(have HBB:Hid (∀k,(Value.slice A9 m9 c9).ownBlock=some k->wa.heap.size<=k/\k<wn.heap.size):=by obtain⟨l0,_,ho⟩:=HO9.out;exact fun k hk=>⟨Nat.le_trans (Nat.le_of_lt hFz) (ho.lt k hk).1,Nat.lt_of_lt_of_le (ho.lt k hk).2 hbn.size⟩);have hbase:=HBn.out.size;have HWn:=hd_ hwn;(have hm24':i+1<=100:=by omega);clear hwn hbn hl9 hX hB hT hV hP
    go_wp2_with (first
     | (at_builtin
        change wpList _ _ _ _ _ (wv.alloc (.cells #[.slice A9 m9 c9] 31))
        rw[<-HWn.out]
        refine append_rg rfl (.tmp 53) (.tmp 55) 67 rfl w2.heap.size 31 1 24 et67 (.slice A3 i c3) i (rs.map sv) rfl HXn.out.rows.own (some ⟨wv.heap.size,0,none⟩) 1 1 ([(A9,m9,c9,l9)].map sv) rfl HN.out.rg sv_one o_ (by unfold maxLen;omega) hbase ?_
        intro A7 c7 w7 hown7 hgrow hb7 hat
        have HB7:=hd_ (HBn.out.trans hb7)
        have HX7:Hid (BxS w7 w2.heap.size (.slice A7 (i+1) c7) (i+1) (rs ++ [(A9,m9,c9,l9)])):=⟨HXn.out.rows.app HN.out hown7 hgrow hat (fun r hr k hk=>by simp at hr;subst hr;exact⟨(HBB.out k hk).2,fun e=>by have:=HFar.out k e;have:=(HBB.out k hk).1;omega⟩),(fun r hr=>by rcases List.mem_append.1 hr with h'|h';(· exact HXn.out.small r h');(· simp at h';subst h';show m9<=300;omega)),(fun r hr k hk=>by rcases List.mem_append.1 hr with h'|h';(· exact HXn.out.lo r h' k hk);(· simp at h';subst h';have:=(HBB.out k hk).1;omega))⟩
        clear hown7 hgrow hb7 hat))
    go_roundw;(case rel=>exact⟨i+1,A7,c7,by go_num,rfl,by omega,⟨_,HX7.out⟩,HB7⟩);case measure=>simp[intOf];omega
  · (obtain rfl:i=m:=by omega);obtain⟨rs,hx⟩:=HX.out;have HR:=hd_ hx;clear hx HX;go_wp2_with fail;refine bodyPost_ret (v:=.tuple #[.slice A3 i c3,.int .i64 0]) (by simp[results,results103,asAddr,Act.put]) rfl ⟨⟨A3,i,c3,0,rfl,⟨w2.heap.size,rs,HB2.out.size,HR.out⟩,hm24⟩,HB2.out.trans (HB.out.mono HB2.out.size)⟩
end Go.Proofs.YtppjnahcnofokaaGreat.T
