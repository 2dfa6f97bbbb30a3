import Derived.Test.YtppjnahcnofokaaGreatK0
import Derived.Test.YtppjnahcnofokaaGreatK1
set_option maxRecDepth 100000
set_option maxHeartbeats 32000000
set_option linter.unusedSimpArgs false
set_option linter.unusedVariables false
set_option linter.unnecessarySimpa false
namespace Go.Proofs.YtppjnahcnofokaaGreat.T
open Go.RowKit Go.Proofs.YtppjnahcnofokaaGreatW.PrintLast
open Go.Proofs.Tryz
variable{k:IntKind}{a:Act}{b i n B base m fuel D B':Nat}{l ch p t0 q:List Int}{w w' w1 w2:World}{t:TypeId}{P:Int->Int->Prop}{cs:Array Value}{A A':Option Addr}{o oi:Oper}{e s f st fl:Int}{xs:List (List Int×Int×Int×Int)}{ops:Array Oper}{rest l0:List Oper}{v:Value}{r:Option Nat}{rs rs2:List (Option Addr×Nat×Nat×List Int)}{E:Prop}{vs l3:List Value}{ad ai go:List Bool}{N:Act->Prop}{place:Nat->Option (Nat×Nat)}{bad:Bool}{es es':List (Int×List Int)}{T:List TypeId}{ps:List (List Int)}
theorem step_val{P:Program}{Q:Exit->Act->World->Prop}{K:Act->World->Prop}(hw:Region.wanted oi (yielded ops a.tmps)=true)(hrun:(execOp a.eval oi).run P w=.ok (.value v) w1)(h:K (a.put oi.dst v) w1):if Region.wanted oi (yielded ops a.tmps)=true then Oper.wp P oi a w K Q else E:=by
 rw[if_pos hw];unfold Oper.wp;rw[hrun];exact h
structure RowsO (w:World) (base:Nat) (v:Value) (n:Nat) (rs:List (Option Addr×Nat×Nat×List Int)):Prop where
 len:rs.length=n
 own:w.ownsRow base 31 1 v n (rs.map sv)
 each:∀r ∈ rs,Rd w .u8 r.1 r.2.1 r.2.2.1 r.2.2.2/\r.2.1<=60000
 far:∀r ∈ rs,∀k,(sv r).ownBlock=some k->k<w.heap.size/\v.ownBlock≠some k
theorem RowsO.nil(w:World)(base:Nat):RowsO w base (.slice none 0 0) 0 []:=⟨rfl,World.ownsRow_nil _ _ _ _,(fun r h=>by cases h),(fun r h=>by cases h)⟩
theorem RowsO.drew(h:RowsO w base v n rs):RowsO w.drew base v n rs:=⟨h.len,h.own.drew,fun r hr=>⟨(h.each r hr).1.drew,(h.each r hr).2⟩,h.far⟩
theorem RowsO.below(h:RowsO w base v n rs)(hb:Bl w w'):RowsO w' base v n rs:=
 ⟨h.len,own_below h.own hb,fun r hr=>⟨(h.each r hr).1.below hb,(h.each r hr).2⟩,fun r hr k hk=>⟨Nat.lt_of_lt_of_le (h.far r hr k hk).1 hb.size,(h.far r hr k hk).2⟩⟩
theorem RowsO.app{c c':Nat}(h:RowsO w base v n rs)(h2:RdR w A m c 60000 rs2)(hown:w'.ownsRow base 31 1 (.slice A' (n+m) c') (n+m) (rs.map sv++rs2.map sv))(hg:w.grownBy w' v.ownBlock)(hat:(Value.slice A' (n+m) c').ownBlock=v.ownBlock\/(Value.slice A' (n+m) c').ownBlock=some w.heap.size)(hfar:∀r ∈ rs2,∀k,(sv r).ownBlock=some k->k<w.heap.size/\v.ownBlock≠some k):RowsO w' base (.slice A' (n+m) c') (n+m) (rs++rs2):=by
 have hall:∀r ∈ rs++rs2,(Rd w .u8 r.1 r.2.1 r.2.2.1 r.2.2.2/\r.2.1<=60000)/\∀k,(sv r).ownBlock=some k->k<w.heap.size/\v.ownBlock≠some k:=fun r hr=>by
  rcases List.mem_append.1 hr with h'|h'
  · exact⟨h.each r h',h.far r h'⟩
  exact⟨h2.each r h',hfar r h'⟩
 refine⟨by rw[List.length_append,h.len,h2.len],by rw[List.map_append];exact hown,fun r hr=>⟨(hall r hr).1.1.grown hg (fun b o e=>?_),(hall r hr).1.2⟩,fun r hr k hk=>?_⟩
 · have:=((hall r hr).2 b (by rw[sv,e];rfl)).2;exact fun e'=>this e'.symm
 obtain⟨h1,h2⟩:=(hall r hr).2 k hk;refine⟨Nat.lt_of_lt_of_le h1 hg.size,?_⟩;rcases hat with e|e
 · rw[e];exact h2
 rw[e];intro e';injection e' with e'
 omega
def Cel(w:World)(b:Nat)(t:TypeId)(vs:List Value):Prop:=w.heap[b]? = some (.cells vs.toArray t (0,0))
theorem Cel.lt(h:Cel w b t vs):b<w.heap.size:=(Array.getElem?_eq_some_iff.1 h).1
theorem Cel.cell(h:Cel w b t vs)(i:Nat):w.cell? ⟨b,i,none⟩=vs[i]?:=by
 rw[cell_of_row _ _ _ _ _ _ h];simp
theorem Cel.free(h:Cel w b t vs)(i:Nat):w.frozen? ⟨b,i,none⟩=false:=by
 unfold Cel at h;simp[World.frozen?,h]
theorem Cel.range{l1 l2:List Value}(h:Cel w b t (l1++l2++l3)):w.rangeAt b l1.length l2:=fun j v hv=>by
 have hj:j<l2.length:=(List.getElem?_eq_some_iff.1 hv).1
 rw[h.cell,List.append_assoc,List.getElem?_append_right o_,show l1.length+j-l1.length=j by omega,List.getElem?_append_left hj,hv]
theorem Cel.all(h:Cel w b t vs):w.rangeAt b 0 vs:=fun j v hv=>by
 rw[h.cell,Nat.zero_add,hv]
theorem Cel.below(h:Cel w b t vs)(hb:Below B w w')(hB:b<B):Cel w' b t vs:=(hb.block b hB).trans h
theorem Cel.grown{row:Option Nat}(h:Cel w b t vs)(hg:w.grownBy w' row)(hne:some b≠row):Cel w' b t vs:=(hg.block b h.lt hne).trans h
theorem Cel.alloc(h:Cel w b t vs)(o:Obj):Cel (w.alloc o) b t vs:=h.below b0_ h.lt
theorem Cel.new(vs:List Value)(hb:w.heap.size=b)(hcs:cs=vs.toArray):Cel (w.alloc (.cells cs t)) b t vs:=by
 subst hb hcs;exact heap_alloc_new _ _
theorem Cel.drew(h:Cel w b t vs):Cel w.drew b t vs:=h
theorem Cel.set(h:Cel w b t vs)(i:Nat)(v:Value):Cel (w.setCell ⟨b,i,none⟩ v) b t (vs.set i v):=by
 have hlt:=h.lt;unfold Cel at h ⊢;have h':w.heap[b]=.cells vs.toArray t (0,0):=by simpa[Array.getElem?_eq_getElem hlt] using h
 show(w.heap.modify b _)[b]? = _;rw[Array.getElem?_eq_getElem (by simpa using hlt),Array.getElem_modify_self,h'];simp
theorem Cel.there(h:Cel w b t vs){o:Nat}(hn:o+n<=vs.length):w.there b o n:=fun j hj=>by
 rw[h.cell,List.getElem?_eq_getElem o_]
 exact⟨rfl,h.free _⟩
theorem Blk.cel(h:Blk w b k t l):Cel w b t (ints k l):=h
theorem Cel.blk(h:Cel w b t (ints k l)):Blk w b k t l:=h
theorem setCells_cel:∀(l2 l1 l0:List Value) {w:World},Cel w b t (l1++l0++l3)->l0.length=l2.length->Cel (w.setCells b l1.length l2) b t (l1++l2++l3)/\w.grownBy (w.setCells b l1.length l2) (some b)
 | [],l1,l0,w,h,hl=>by
  have:l0=[]:=List.length_eq_zero_iff.1 (by simpa using hl);subst this;exact⟨h,World.grownBy.refl w _⟩
 | v :: r,l1,[],w,h,hl=>by simp at hl
 | v :: r,l1,u :: l0,w,h,hl=>by
  have hs:=h.set l1.length v;have e:(l1++u :: l0++l3).set l1.length v=(l1 ++ [v])++l0++l3:=by simp
  rw[e]at hs;have ih:=setCells_cel r (l1 ++ [v]) l0 hs (by simpa using hl);rw[List.length_append]at ih;refine⟨?_,?_⟩
  · show Cel ((w.setCell ⟨b,l1.length,none⟩ v).setCells b (l1.length+1) r) b t _;simpa using ih.1
  exact grownBy_trans (grownBy_setCell w b l1.length v) ih.2
where
 grownBy_trans {a w w':World} {row:Option Nat} (h:a.grownBy w row) (k:w.grownBy w' row):a.grownBy w' row:=
  ⟨k.os.trans h.os,k.tape.trans h.tape,k.output.trans h.output,Nat.le_trans h.size k.size,fun j hj hne=>(k.block j (Nat.lt_of_lt_of_le hj h.size) hne).trans (h.block j hj hne)⟩
 grownBy_setCell (w:World) (b i:Nat) (v:Value):w.grownBy (w.setCell ⟨b,i,none⟩ v) (some b):=
  ⟨rfl,rfl,rfl,by simp,fun k _ hne=>Below.heap_setCell _ _ _ _ (fun e=>hne (by rw[e]))⟩
theorem store_cel{Q:Exit->Act->World->Prop}(hgd:o.guard=none)(t:TypeId)(x y:Operand)(ho:o.op=.store t x y)(b off:Nat)(u:TypeId)(l1 l0 l3 vs:List Value)(hx:a.eval x=.pointer (some ⟨b,off,none⟩))(hy:a.eval y=.agg vs.toArray)(hR:Cel w b u (l1++l0++l3))(h1:l1.length=off)(hl:l0.length=vs.length)(hi:(prog.info? t).map (·.size)=some vs.length)(hall:vs.toArray.all (·.oneCell')=true)(h:∀W2,Cel W2 b u (l1++vs++l3)->w.grownBy W2 (some b)->wpList prog ops Q rest (a.put o.dst undef) W2):wpList prog ops Q (o :: rest) a w:=by
 subst h1;obtain⟨h1,h2⟩:=setCells_cel vs l1 l0 hR hl;refine wpList_store_mid hgd t x y ho b l1.length vs.toArray hx hy (hR.there (by simp[hl])) (by rw[hi];simp) hall ?_;exact h _ h1 h2
theorem store_blk{Q:Exit->Act->World->Prop}(hgd:o.guard=none)(t:TypeId)(x y:Operand)(ho:o.op=.store t x y)(b:Nat)(k:IntKind)(l:List Int)(hx:a.eval x=.pointer (some ⟨b,0,none⟩))(hy:a.eval y=.agg (ints k l).toArray)(hR:Row w b k t n)(hl:l.length=n)(hi:(prog.info? t).map (·.size)=some l.length)(h:∀W2,Blk W2 b k t l->w.grownBy W2 (some b)->wpList prog ops Q rest (a.put o.dst undef) W2):wpList prog ops Q (o :: rest) a w:=by
 obtain⟨l0,hl0,hB⟩:=hR;refine store_cel hgd t x y ho b 0 t [] (ints k l0) [] (ints k l) hx hy (by simpa using hB.cel) rfl (by simp[ints_len];omega) (by rw[hi,ints_len]) (all_ints k l) (fun W2 h1 h2=>h W2 (Cel.blk (by simpa using h1)) h2)
theorem tHash_any(t:List Int)(w:World)(ht:t.length=31):Calls prog 155 #[.agg (ints .i64 t).toArray] w fun r w'=>IsH r/\Bl w w':=by
 obtain⟨w1,hW⟩:=ex_ ((w.alloc (.cells (ints .i64 t).toArray 40)).alloc (.cells (ints .u8 zl).toArray 43));have HB:Hid (Blk w1 w.heap.size .i64 40 t):=by rw[hW];exact(blk40 w t).below b0_ s_
 have HZ:Hid (Row w1 (w.heap.size+1) .u8 43 32):=by rw[hW];exact Row.new zl _ rfl s_
 have Hb:Hid (Bl w w1):=by rw[hW];exact bal b0_
 obtain⟨l,hl⟩:=ex_ (t.take 16);obtain⟨m,hm⟩:=ex_ (t.drop 16);have HL:Hid (l.length=16):=by show _=_;rw[hl,List.length_take];omega
 have HM:Hid (m.length=15):=by show _=_;rw[hm,List.length_drop];omega
 have HRl:Hid (∀w',Bl w1 w'->w'.rangeAt w.heap.size 0 (ints .i64 l)):=fun w' h=>by rw[hl];exact range_take (HB.out.below h HB.out.lt).range 16
 have HRm:Hid (∀w',Bl w1 w'->w'.rangeAt w.heap.size 16 (ints .i64 m)):=fun w' h=>by rw[hm];exact range_drop (HB.out.below h HB.out.lt).range 16
 have HIl:Hid ((prog.info? 37).map (·.size)=some (ints .i64 l).length):=by show _=_;rw[ints_len,HL.out];exact info37
 have HIm:Hid ((prog.info? 38).map (·.size)=some (ints .i64 m).length):=by show _=_;rw[ints_len,HM.out];exact info38
 have HW:=hd_ hW;clear hW hl hm;go_enter func155,ntmps155
 go_wp2_with ((change wpList _ _ _ _ _ ((w.alloc (.cells (ints .i64 t).toArray 40)).alloc (.cells (ints .u8 zl).toArray 43)));rw[<-HW.out];refine wpList_load_mid rfl 37 (.tmp 8) rr w.heap.size 0 rr (ints .i64 l) _ (HRl.out _ (Below.refl _ _)) underlying37 rfl HIl.out ?_);go_loopw [3,10] (fun vx v wr=>∃(i n3:Nat) (A3:Option Addr) (c3:Nat),v=.int .i64 i/\vx=.slice A3 n3 c3/\i<=8/\n3=i*2/\Hid (∃rs,RowsO wr w1.heap.size (.slice A3 n3 c3) n3 rs)/\Hid (Bl w1 wr)) (fun _ v _=>8-(intOf v).toNat)
 case atStart=>exact⟨0,0,none,0,rfl,rfl,by omega,rfl,⟨[],RowsO.nil _ _⟩,Below.refl _ _⟩
 case round=>
  obtain⟨i,n3,A3,c3,rfl,rfl,hi,hn3,hO,hb⟩:=hrel
  obtain⟨rs,hO⟩:=hO.out
  have HN3:=hd_ hn3
  have HOwn:Hid (∀k,(Value.slice A3 n3 c3).ownBlock=some k->k<wr.heap.size):=fun k hk=>(hO.own.lt k hk).2
  have hn16:n3<=16:=by omega
  clear hn3
  by_cases hlt:i<8
  · obtain⟨x,y,_,_,hix⟩:=idx37 l HL.out i hlt wr;have HIX:=hd_ hix;have hbA:Bl wr (wr.alloc (.cells #[.int .i64 x,.int .i64 y] 36)):=b0_;have HO2:=hd_ (hO.below hbA);have Hb2:=tb_ hb hbA;have hk2:(wr.alloc (.cells #[.int .i64 x,.int .i64 y] 36)).heap[wr.heap.size]? = some (.cells #[.int .i64 x,.int .i64 y] 36 (0,0)):=heap_alloc_new _ _;(have hx0:(wr.alloc (.cells #[.int .i64 x,.int .i64 y] 36)).cell? ⟨wr.heap.size,0,none⟩=some (.int .i64 x):=by rw[key_cell hk2];rfl);(have hx1:(wr.alloc (.cells #[.int .i64 x,.int .i64 y] 36)).cell? ⟨wr.heap.size,1,none⟩=some (.int .i64 y):=by rw[key_cell hk2];rfl);(have hl2:wr.heap.size<(wr.alloc (.cells #[.int .i64 x,.int .i64 y] 36)).heap.size:=by simp);have HF:Hid (hx0=hx0):=rfl;clear hix hO hbA hk2 HF;go_wp2_with (refine wpList_index rfl 37 (.tmp 9) (.tmp 10) rfl _ _ _ rr rr HIX.out ?_);generalize hw2:wr.alloc (.cells #[.int .i64 x,.int .i64 y] 36)=w2 at HO2 Hb2 hx0 hx1 hl2 ⊢;clear hw2;refine start_ (n:=10) (S:=fun w'=>w'.cell? ⟨wr.heap.size,0,none⟩=some (.int .i64 x)/\w'.cell? ⟨wr.heap.size,1,none⟩=some (.int .i64 y)) (ds:=[]) (bt 10 0) kk rfl rfl ?hS5 (fun hH=>?_);rotate_left;generalize hw3d:w2.drew=w3d at hH ⊢;(have Hb3:Hid (Bl w1 w3d):=by rw[<-hw3d];exact Hb2.out.drew);(have HO3:Hid (RowsO w3d w1.heap.size (.slice A3 n3 c3) n3 rs):=by rw[<-hw3d];exact HO2.out.drew);(have hl3:wr.heap.size<w3d.heap.size:=by rw[<-hw3d];exact hl2);clear hw3d;refine pure_ (i:=0) (N:=some 13) (v:=?_) (a':=?_) (bt 10 1) rfl rfl kk (fun _ _ _ h=>h) (Or.inl ⟨by rfl,?_⟩) ?_ ?_;rotate_left;(· intro w';go_simp;with_reducible rfl);rotate_left;(· simp only[Act.put,List.setIfInBounds_toArray,List.set_cons_zero,List.set_cons_succ];rfl);refine pure_ (i:=1) (N:=some 14) (v:=?_) (a':=?_) (bt 10 3) rfl rfl kk (fun _ _ _ h=>h) (Or.inl ⟨by rfl,?_⟩) ?_ ?_;rotate_left;(· intro w';go_simp;with_reducible rfl);rotate_left;(· simp only[Act.put,List.setIfInBounds_toArray,List.set_cons_zero,List.set_cons_succ];rfl);refine take_ (i:=2) (N:=some 15) (v:=?_) (a':=?_) (bt 10 7) rfl rfl kk (fun _ _ _ h=>h) (Or.inl ⟨by rfl,?_⟩) hH ?_ ?_;rotate_left;(· rintro w' ⟨s0,s1⟩;go_simp;with_reducible rfl);rotate_left;(· simp only[Act.put,List.setIfInBounds_toArray,List.set_cons_zero,List.set_cons_succ];rfl);refine pure_ (i:=4) (N:=some 17) (v:=?_) (a':=?_) (bt 10 23) rfl rfl kk (fun _ _ _ h=>h) (Or.inl ⟨by rfl,?_⟩) ?_ ?_;rotate_left;(· intro w';go_simp;with_reducible rfl);rotate_left;(· simp only[Act.put,List.setIfInBounds_toArray,List.set_cons_zero,List.set_cons_succ];rfl);refine take_ (i:=5) (N:=some 18) (v:=?_) (a':=?_) (bt 10 55) rfl rfl kk (fun _ _ _ h=>h) (Or.inl ⟨by rfl,?_⟩) hH ?_ ?_;rotate_left;(· rintro w' ⟨s0,s1⟩;go_simp;with_reducible rfl);rotate_left;(· simp only[Act.put,List.setIfInBounds_toArray,List.set_cons_zero,List.set_cons_succ];rfl);refine one_ (i:=3) (N:=some 16) (bt 10 63) rfl rfl kk dd (fun K hK=>?_);refine goes_ func38 kk rfl #[.int .i64 x] rr rfl rfl mL ?_;refine(num_any x w3d).mono ?_;rintro _ w4 ⟨⟨A4,c4,l4,rfl,ho4,hl4⟩,hb4⟩;refine⟨_,rfl,?_⟩;have Hb4:Hid (Bl w1 w4):=Hb3.out.trans (hb4.mono Hb3.out.size);have HO4:=hd_ (HO3.out.below hb4);have HR4:Hid (Rd w4 .u8 A4 8 c4 l4):=rd_own ho4 hl4;have HA4:Hid (∀k,(Value.slice A4 8 c4).ownBlock=some k->w3d.heap.size<=k):=fun k hk=>(ho4.lt k hk).1;have HB4:Hid (∀k,(Value.slice A4 8 c4).ownBlock=some k->k<w4.heap.size):=fun k hk=>(ho4.lt k hk).2;have hl4':wr.heap.size<w4.heap.size:=Nat.lt_of_lt_of_le hl3 hb4.size;refine hK.out _ _ ⟨(hb4.cell hl3).trans hH.1,(hb4.cell hl3).trans hH.2⟩ (fun hH=>?_);clear hK K ho4 hl4;refine mN ?_;refine one_ (i:=6) (N:=some 19) (bt 10 127) rfl rfl kk dd (fun K hK=>?_);refine goes_ func38 kk rfl #[.int .i64 y] rr rfl rfl mL ?_;refine(num_any y w4).mono ?_;rintro _ w5 ⟨⟨A5,c5,l5,rfl,ho5,hl5⟩,hb5⟩;refine⟨_,rfl,?_⟩;have Hb5:Hid (Bl w1 w5):=Hb4.out.trans (hb5.mono Hb4.out.size);have HO5:=hd_ (HO4.out.below hb5);have HR5:Hid (Rd w5 .u8 A5 8 c5 l5):=rd_own ho5 hl5;have HR45:=hd_ (HR4.out.below hb5);have HA5:Hid (∀k,(Value.slice A5 8 c5).ownBlock=some k->w3d.heap.size<=k):=fun k hk=>Nat.le_trans hb4.size (ho5.lt k hk).1;have HB5:Hid (∀k,(Value.slice A5 8 c5).ownBlock=some k->k<w5.heap.size):=fun k hk=>(ho5.lt k hk).2;have h45:w4.heap.size<=w5.heap.size:=hb5.size;have hl5':wr.heap.size<w5.heap.size:=Nat.lt_of_lt_of_le hl4' hb5.size;have h35:w3d.heap.size<=w5.heap.size:=Nat.le_trans hb4.size hb5.size;refine hK.out _ _ ⟨(hb5.cell hl4').trans hH.1,(hb5.cell hl4').trans hH.2⟩ (fun hH=>?_);clear hK K ho5 hl5;refine mN ?_;refine one_ (i:=7) (N:=some 20) (bt 10 255) rfl rfl kk dd (fun K hK=>?_);refine step_val rr (v:=.slice (some ⟨w5.heap.size,0,none⟩) 2 2) (w1:=w5.alloc (.cells #[.slice A4 8 c4,.slice A5 8 c5] 31)) (by go_simp) ?_;have hbA:Bl w5 (w5.alloc (.cells #[.slice A4 8 c4,.slice A5 8 c5] 31)):=b0_
    have HRR:Hid (RdR (w5.alloc (.cells #[.slice A4 8 c4,.slice A5 8 c5] 31)) (some ⟨w5.heap.size,0,none⟩) 2 2 60000 [(A4,8,c4,l4),(A5,8,c5,l5)]):=rdr_new w5 [(A4,8,c4,l4),(A5,8,c5,l5)] _ 2 rfl rfl (fun r hr=>by
     simp at hr
     rcases hr with rfl|rfl
     · exact⟨HR45.out,by show 8<=_;omega⟩
     · exact⟨HR5.out,by show 8<=_;omega⟩)
    refine hK.out _ _ ⟨(hbA.cell hl5').trans hH.1,(hbA.cell hl5').trans hH.2⟩ (fun hH=>?_);clear hK K;have HO6:=hd_ (HO5.out.below hbA);have Hb6:=tb_ Hb5 hbA;generalize hW6:w5.alloc (.cells #[.slice A4 8 c4,.slice A5 8 c5] 31)=w6 at HRR HO6 Hb6 hH hbA ⊢;have h36:w3d.heap.size<=w6.heap.size:=Nat.le_trans h35 hbA.size;have h56:w5.heap.size<=w6.heap.size:=hbA.size;have hl6:wr.heap.size<w6.heap.size:=Nat.lt_of_lt_of_le hl5' hbA.size;clear hW6 hbA;refine norm_ (a':=?_) ?_ ?_;rotate_left;(· show Act.put _ (some 20) _=_;simp only[Act.put,List.setIfInBounds_toArray,List.set_cons_zero,List.set_cons_succ];rfl);refine one_ (i:=8) (N:=some 21) (bt 10 511) rfl rfl kk dd (fun K hK=>?_);refine step_append_rg rfl (.tmp 13) (.tmp 20) 67 rr w1.heap.size 31 1 24 et67 (.slice A3 n3 c3) n3 (rs.map sv) rr HO6.out.own (some ⟨w5.heap.size,0,none⟩) 2 2 ([(A4,8,c4,l4),(A5,8,c5,l5)].map sv) rr HRR.out.rg sv_one o_ (by unfold maxLen;omega) Hb6.out.size ?_;intro A7 c7 w7 hown7 hgrow hb7 hat;have Hb7:Hid (Bl w1 w7):=Hb6.out.trans hb7;(have hfar7:∀b,wr.heap.size<=b->(Value.slice A3 n3 c3).ownBlock≠some b:=fun b hb e=>by have:=HOwn.out b e;omega)
    have HO7:Hid (RowsO w7 w1.heap.size (.slice A7 (n3+2) c7) (n3+2) (rs ++ [(A4,8,c4,l4),(A5,8,c5,l5)])):=HO6.out.app HRR.out hown7 hgrow hat (fun r hr k hk=>by
     simp at hr
     rcases hr with rfl|rfl
     · have:=HA4.out k hk;exact⟨by have:=HB4.out k hk;omega,hfar7 k o_⟩
     · have:=HA5.out k hk;exact⟨by have:=HB5.out k hk;omega,hfar7 k o_⟩)
    have hc0:w7.cell? ⟨wr.heap.size,0,none⟩=some (.int .i64 x):=hgrow.cell hH.1 (fun e=>hfar7 _ (Nat.le_refl _) e.symm);have hc1:w7.cell? ⟨wr.heap.size,1,none⟩=some (.int .i64 y):=hgrow.cell hH.2 (fun e=>hfar7 _ (Nat.le_refl _) e.symm);refine hK.out _ _ ⟨hc0,hc1⟩ (fun hH=>?_);clear hK K hgrow hb7 hat hown7;refine norm_ (a':=?_) ?_ ?_;rotate_left;(· show Act.put _ (some 21) _=_;simp only[Act.put,List.setIfInBounds_toArray,List.set_cons_zero,List.set_cons_succ];rfl);refine pure_ (i:=9) (N:=some 3) (v:=?_) (a':=?_) (bt 10 1023) rfl rfl kk (fun _ _ _ h=>h) (Or.inl ⟨by rfl,?_⟩) ?_ ?_;rotate_left;(· intro w';go_simp;with_reducible rfl);rotate_left;(· simp only[Act.put,List.setIfInBounds_toArray,List.set_cons_zero,List.set_cons_succ];rfl);refine done_ kk ?_;go_wp2;(case hS5=>exact⟨hx0,hx1⟩);go_roundw;(case rel=>exact⟨i+1,n3+2,A7,c7,by go_num,rfl,by omega,by have:=HN3.out;omega,⟨_,HO7.out⟩,Hb7.out⟩);case measure=>simp[intOf];omega
  · (have hn3:n3=16:=by have:=HN3.out;omega);subst hn3;clear HN3 hn16;go_wp2_with (refine wpList_load_mid rfl 38 (.tmp 23) rr w.heap.size 16 rr (ints .i64 m) _ (HRm.out _ hb.out) underlying38 rfl HIm.out ?_);(go_loopw [3,25] (fun vx v w'=>∃(j n3:Nat) (A3:Option Addr) (c3:Nat),v=.int .i64 j/\vx=.slice A3 n3 c3/\j<=15/\n3=16+j/\Hid (∃rs,RowsO w' w1.heap.size (.slice A3 n3 c3) n3 rs)/\Hid (Bl w1 w')) (fun _ v _=>15-(intOf v).toNat));(case atStart=>exact⟨0,16,A3,c3,rfl,rfl,by omega,rfl,⟨_,hO⟩,hb⟩)
    case round=>
     clear hb hO
     obtain⟨j,n4,A3,c3,rfl,rfl,hj,hn4,hO,hb⟩:=hrel
     obtain⟨rs,hO⟩:=hO.out
     have HN4:=hd_ hn4
     have HO:=hd_ hO
     have hn31:n4<=31:=by omega
     clear hn4 hO
     by_cases hlj:j<15
     · obtain⟨x,_,hix⟩:=idx38 m HM.out j hlj wr;have HIX:=hd_ hix;clear hix;go_wp2_with (refine wpList_index rfl 38 (.tmp 24) (.tmp 25) rfl _ _ _ rr rr HIX.out ?_);have HOwn:Hid (∀k,(Value.slice A3 n4 c3).ownBlock=some k->k<wr.heap.size):=fun k hk=>(HO.out.own.lt k hk).2;refine(num_any x wr).mono ?_;rintro _ w4 ⟨⟨A4,c4,l4,rfl,ho4,hl4⟩,hb4⟩;have hbA:Bl w4 (w4.alloc (.cells #[.slice A4 8 c4] 31)):=b0_;have hb6:=hb4.trans (hbA.mono hb4.size);have HR4:Hid (Rd w4 .u8 A4 8 c4 l4):=rd_own ho4 hl4
       have HRR:Hid (RdR (w4.alloc (.cells #[.slice A4 8 c4] 31)) (some ⟨w4.heap.size,0,none⟩) 1 1 60000 [(A4,8,c4,l4)]):=rdr_new w4 [(A4,8,c4,l4)] _ 1 rfl rfl (fun r hr=>by
        simp at hr
        rcases hr with rfl
        exact⟨HR4.out,by show 8<=_;omega⟩)
       have HO6:=hd_ (HO.out.below hb6);have Hb6:=tb_ hb hb6;have HA4:Hid (∀k,(Value.slice A4 8 c4).ownBlock=some k->wr.heap.size<=k/\k<(w4.alloc (.cells #[.slice A4 8 c4] 31)).heap.size):=fun k hk=>⟨(ho4.lt k hk).1,Nat.lt_of_lt_of_le (ho4.lt k hk).2 hbA.size⟩;have HS6:Hid (w1.heap.size<=(w4.alloc (.cells #[.slice A4 8 c4] 31)).heap.size):=Hb6.out.size;clear hbA hb6 ho4 hl4 hb4;go_wp2_with (at_builtin;refine append_rg rfl (.tmp 28) (.tmp 31) 67 rfl w1.heap.size 31 1 24 et67 (.slice A3 n4 c3) n4 (rs.map sv) rfl HO6.out.own (some ⟨w4.heap.size,0,none⟩) 1 1 ([(A4,8,c4,l4)].map sv) rfl HRR.out.rg sv_one o_ (by unfold maxLen;omega) HS6.out ?_;intro A7 c7 w7 hown7 hgrow hb7 hat)
       have HO7:Hid (RowsO w7 w1.heap.size (.slice A7 (n4+1) c7) (n4+1) (rs ++ [(A4,8,c4,l4)])):=HO6.out.app HRR.out hown7 hgrow hat (fun r hr k hk=>by
        simp at hr
        rcases hr with rfl
        obtain⟨h1,h2⟩:=HA4.out k hk
        exact⟨h2,fun e=>by have:=HOwn.out k e;omega⟩)
       have Hb7:=hd_ (Hb6.out.trans hb7);clear hown7 hgrow hb7 hat;go_wp2_with fail;go_roundw;(case rel=>exact⟨j+1,n4+1,A7,c7,by go_num,rfl,by omega,by have:=HN4.out;omega,⟨_,HO7.out⟩,Hb7.out⟩);case measure=>simp[intOf];omega
     · have Hbw:Hid (Bl w wr):=Hb.out.trans (hb.out.mono Hb.out.size);have hS:w.heap.size+1<w1.heap.size:=HZ.out.lt;go_wp2_with fail;change Calls prog 37 #[.agg (ints .u8 zl).toArray,_,_] _ _;refine(derive_any zl _ A3 n4 c3 rs wr rfl dd ⟨HO.out.len,own_rg HO.out.own,HO.out.each⟩ o_).mono ?_;rintro _ w9 ⟨⟨l9,hl9,rfl⟩,hb9⟩;have H9:=(HZ.out.below hb.out HZ.out.lt).below hb9 (Nat.lt_of_lt_of_le HZ.out.lt hb.out.size);have Hb9:=tb_ Hbw hb9;have HLh:=hd_ hl9;clear hb9 hl9;go_wp2_with (refine store_blk rfl 43 (.tmp 2) (.tmp 36) rr (w.heap.size+1) .u8 l9 rr rr H9 HLh.out (by show _=_;rw[HLh.out];exact info43) ?_;intro w10 hB10 hg10);have hload:=hB10.loads underlying43 rfl (by show _=_;rw[HLh.out];exact info43);refine bodyPost_ret (v:=.agg (ints .u8 l9).toArray) (by simp[results,results155,asAddr,Act.put,hload]) rfl ⟨⟨l9,HLh.out,rfl⟩,?_⟩;exact Hb9.out.grown hg10 Hb9.out.size (fun k hk=>by cases hk;omega)
end Go.Proofs.YtppjnahcnofokaaGreat.T
namespace Go.Proofs.YtppjnahcnofokaaGreat.T
open Go.RowKit Go.Proofs.YtppjnahcnofokaaGreatW.PrintLast
open Go.Proofs.Tryz
variable{k:IntKind}{a:Act}{b i n B base m fuel D B':Nat}{l ch p t0 q:List Int}{w w' w1 w2:World}{t:TypeId}{P:Int->Int->Prop}{cs:Array Value}{A A':Option Addr}{o oi:Oper}{e s f st fl:Int}{xs:List (List Int×Int×Int×Int)}{ops:Array Oper}{rest l0:List Oper}{v:Value}{r:Option Nat}{rs rs2:List (Option Addr×Nat×Nat×List Int)}{E:Prop}{vs l3:List Value}{ad ai go:List Bool}{N:Act->Prop}{place:Nat->Option (Nat×Nat)}{bad:Bool}{es es':List (Int×List Int)}{T:List TypeId}{ps:List (List Int)}
def bools(l:List Bool):List Value:=l.map .bool
theorem bools_len(l:List Bool):(bools l).length=l.length:=by simp[bools]
def vw(e:Int)(t:List Int)(ad:List Bool)(k:Int)(ch:List Int):List Value:=[.int .i64 e]++(ints .i64 t++(bools ad++([.int .i64 k]++ints .u8 ch)))
structure VwOk (t:List Int) (ad:List Bool) (ch:List Int):Prop where
 tree:t.length=31
 admins:ad.length=8
 chain:ch.length=32
theorem vw_len{k:Int}{t:List Int}(h:VwOk t ad ch):(vw e t ad k ch).length=73:=by
 simp[vw,ints_len,bools_len,h.tree,h.admins,h.chain]
theorem vw_tree{k:Int}{t:List Int}(h:VwOk t ad ch)(i:Nat)(hi:i<31):(vw e t ad k ch)[1+i]? = some (.int .i64 (t.getD i 0)):=by
 have h1:=h.tree;unfold vw;rw[List.getElem?_append_right s_,List.getElem?_append_left (by simp[ints_len];omega)];have e:1+i - [Value.int IntKind.i64 e].length=i:=by simp
 rw[e];exact ints_get (by rw[List.getD_eq_getElem?_getD,List.getElem?_eq_getElem o_];rfl)
theorem vw_admin{k:Int}{t:List Int}(h:VwOk t ad ch)(i:Nat)(hi:i<8):(vw e t ad k ch)[32+i]? = some (.bool (ad.getD i false)):=by
 have h1:=h.tree;have h2:=h.admins;unfold vw;rw[List.getElem?_append_right s1_,List.getElem?_append_right (by simp[ints_len];omega),List.getElem?_append_left (by simp[ints_len,bools_len];omega)];have e:32+i - [Value.int IntKind.i64 e].length-(ints .i64 t).length=i:=by simp[ints_len];omega
 rw[e,bools,List.getElem?_map,List.getElem?_eq_getElem o_];simp[List.getElem?_eq_getElem (show i<ad.length by omega)]
theorem vw_k{k:Int}{t:List Int}(h:VwOk t ad ch):(vw e t ad k ch)[40]? = some (.int .i64 k):=by
 have h1:=h.tree;have h2:=h.admins;unfold vw;rw[List.getElem?_append_right s_,List.getElem?_append_right (by simp[ints_len];omega),List.getElem?_append_right (by simp[ints_len,bools_len];omega)];simp[ints_len,bools_len,h1,h2]
theorem vw_all(e:Int)(t:List Int)(ad:List Bool)(k:Int)(ch:List Int):∀v ∈ vw e t ad k ch,v.oneCell'=true:=by
 intro v hv;simp only[vw,List.mem_append,ints,bools,List.mem_map,List.mem_singleton]at hv;rcases hv with rfl|⟨x,_,rfl⟩|⟨x,_,rfl⟩|rfl|⟨x,_,rfl⟩<;>rfl
theorem info45:(prog.info? 45).map (·.size)=some 73:=by kernel_rfl
theorem info41:(prog.info? 41).map (·.size)=some 8:=by kernel_rfl
theorem info4:(prog.info? 4).map (fun i=>(i.zero,i.size,i.bytes))=some (some (.bool false),1,1):=by kernel_rfl
theorem idx41(l:List Bool)(hl:l.length=8)(i:Nat)(hi:i<8)(w:World):∃x:Bool,(Instr.index 41 (.agg (bools l).toArray) (.int .i64 (i:Int))).run prog w=.ok (.bool x) w:=by
 obtain⟨inf,hinf,_,hs,_⟩:=info_parts info4;refine⟨l[i],?_⟩;exact run_index_plain w 41 4 8 _ i _ inf underlying41 hinf hs kk hi (by simp[bools,List.getElem?_eq_getElem (show i<l.length by omega)])
theorem load_g{op:Oper}{Q:Exit->Act->World->Prop}(hw:Region.wanted op (yielded ops a.tmps)=true)(ty:TypeId)(x:Operand)(ho:op.op=.load ty x)(b o:Nat)(hx:a.eval x=.pointer (some ⟨b,o,none⟩))(cs:List Value)(d:TypeDesc)(hc:w.rangeAt b o cs)(hu:prog.underlying ty=some d)(hd:d.isRow=true)(hi:(prog.info? ty).map (·.size)=some cs.length)(h:wpList prog ops Q rest (a.put op.dst (.agg cs.toArray)) w):wpList prog ops Q (op :: rest) a w:=
 wpList_step fun _ hK=>by rw[if_pos hw];exact wp_load_mid ty x ho b o hx cs d hc hu hd hi (hK _ _ h)
theorem vw_hi{k:Int}{t:List Int}(h:VwOk t ad ch):(prog.info? 45).map (·.size)=some (vw e t ad k ch).length:=by rw[vw_len h];exact info45
theorem vw_load{k:Int}{t:List Int}(h:VwOk t ad ch)(hC:Cel w b 45 (vw e t ad k ch)):(loadVar 45 ⟨b,0,none⟩).run prog w=.ok (.agg (vw e t ad k ch).toArray) w:=
 run_loadVar_mid (P:=prog) _ b 0 45 (vw e t ad k ch) _ hC.all underlying45 rfl (by rw[vw_len h];exact info45)
end Go.Proofs.YtppjnahcnofokaaGreat.T
namespace Go.Proofs.YtppjnahcnofokaaGreat.T
open Go.RowKit Go.Proofs.YtppjnahcnofokaaGreatW.PrintLast
open Go.Proofs.Tryz
variable{k:IntKind}{a:Act}{b i n B base m fuel D B':Nat}{l ch p t0 q:List Int}{w w' w1 w2:World}{t:TypeId}{P:Int->Int->Prop}{cs:Array Value}{A A':Option Addr}{o oi:Oper}{e s f st fl:Int}{xs:List (List Int×Int×Int×Int)}{ops:Array Oper}{rest l0:List Oper}{v:Value}{r:Option Nat}{rs rs2:List (Option Addr×Nat×Nat×List Int)}{E:Prop}{vs l3:List Value}{ad ai go:List Bool}{N:Act->Prop}{place:Nat->Option (Nat×Nat)}{bad:Bool}{es es':List (Int×List Int)}{T:List TypeId}{ps:List (List Int)}
section
variable {P:Program} {Q:Exit->Act->World->Prop} {md:Region.Mode} {S:World->Prop} {ds:List Nat} {ops:Array Oper}
def Qn(P:Program)(md:Region.Mode)(ops:Array Oper)(Q:Exit->Act->World->Prop)(fuel:Nat)(l:Array Bool):Exit->Act->World->Prop
 | .normal,a,w=>wpAny P md ops Q fuel l a w
 | e,a,w=>Q e a w
theorem opwp_qn{K:Act->World->Prop}{l:Array Bool}(hh:o.wp P a w K (Qn P md ops Q fuel l)):o.wp P a w K Q:=by
 unfold Oper.wp at *;generalize (execOp a.eval o).run P w=r at *
 cases r with
 | ok n w'=>
  cases n<;>simp only[Oper.upon]at hh ⊢ <;>
   first
    | exact hh
    | exact Calls.mono hh (fun e w'' he=>by cases e<;>exact he)
    | exact Rows.mono hh (fun _ _ he=>he)
 | halt x w'=>cases x<;>simp only[Oper.upon]at hh ⊢<;>exact hh
theorem lets_qn{l:Array Bool}(h:LetsOut (Qn P md ops Q fuel l)):LetsOut Q:=by
 obtain⟨a,w,h⟩:=h;exact⟨a,w,h⟩
def headB(md:Region.Mode)(ops:Array Oper)(l:Array Bool):Nat->Nat->Array Bool->Bool
 | 0,_,listed=>listed==l
 | m+1,i,listed=>decide (Region.ready md ops listed=[i])&&headB md ops l m (i+1) (listed.setIfInBounds i true)
theorem head_go{l:Array Bool}{k:Nat}:∀(r:List Oper) (i:Nat) (listed:Array Bool) (a:Act) (w:World),(∀j,j<r.length->r[j]? = ops[i+j]?) -> headB md ops l r.length i listed=true->wpList P ops (Qn P md ops Q k l) r a w->wpAny P md ops Q (r.length+k) listed a w
 | [],i,listed,a,w,_,hB,h=>by
  have e:listed=l:=by simpa[headB] using hB
  subst e;have h':wpAny P md ops Q k listed a w:=h;simpa using h'
 | o :: r,i,listed,a,w,hl,hB,h=>by
  have h0:ops[i]? = some o:=by simpa using(hl 0 s_).symm
  simp only[List.length_cons,headB,Bool.and_eq_true,decide_eq_true_eq]at hB;rw[List.length_cons,show r.length+1+k=(r.length+k)+1 by omega];refine⟨fun h1=>(by rw[hB.1]at h1;cases h1),fun j hj=>?_⟩;rw[hB.1]at hj;have hij:j=i:=by simpa using hj
  subst hij;have hw:wpOp P ops Q j (wpList P ops (Qn P md ops Q k l) r) a w:=by unfold wpOp;simp only[h0];unfold wpList at h;split;(· rename_i hwa;rw[if_pos hwa]at h;exact h.imp opwp_qn (fun hx=>⟨hx.1,lets_qn hx.2⟩));rename_i hwa;rw[if_neg hwa]at h;exact h
  exact wpOp_mono (fun a' w' h'=>head_go r (j+1) _ a' w' (fun j' hj'=>by have:=hl (j'+1) (by simpa using hj');simpa[Nat.add_assoc,Nat.add_comm 1 j'] using this) hB.2 h') hw
def preB(md:Region.Mode)(ops:Array Oper)(l:Array Bool)(m:Nat):Bool:=decide (m<=ops.size)&&headB md ops l m 0 (Array.replicate ops.size false)
theorem pre_region{id:Nat}(m k:Nat)(l:Array Bool)(hm:P.follows .mixedOrders=true)(hn:l0.length=m+k)(hc:preB .any l0.toArray l m=true)(h:∀w1,w.drew=w1->wpList P l0.toArray (Qn P .any l0.toArray Q k l) (l0.take m) a w1):(Code.region id l0.toArray true).wp P Q a w:=by
 refine wp_region_any hm ?_;simp only[preB,Bool.and_eq_true,decide_eq_true_eq]at hc;have hlen:(l0.take m).length=m:=by rw[List.length_take];omega
 have:=head_go (P:=P) (Q:=Q) (md:=.any) (ops:=l0.toArray) (l:=l) (k:=k) (l0.take m) 0 (Array.replicate l0.toArray.size false) a w.drew
  (fun j hj=>by rw[hlen]at hj;simp[List.getElem?_take,hj]) (by rw[hlen];exact hc.2) (h w.drew rfl)
 rw[hlen]at this;have he:l0.toArray.size=m+k:=by simpa using hn
 rw[he]at this ⊢;exact this
def tailB(md:Region.Mode)(ops:Array Oper)(ds:List Nat):Nat->Nat->Array Bool->Bool
 | 0,_,listed=>Region.ready md ops listed == []
 | g+1,k,listed=>decide (Region.ready md ops listed=[k])&&ds.contains k&&tailB md ops ds g (k+1) (listed.setIfInBounds k true)
theorem tail_:∀(r:List Oper) (k:Nat) (listed:Array Bool) (a:Act) (w:World),(∀j,r[j]? = ops[k+j]?) -> tailB md ops ds r.length k listed=true->wpList P ops Q r a w->wpAnyLast P md ops Q S ds r.length listed a w
 | [],k,listed,a,w,_,hB,h=>⟨by simpa[tailB] using hB,h⟩
 | o :: r,k,listed,a,w,hl,hB,h=>by
  have h0:ops[k]? = some o:=by simpa using(hl 0).symm
  simp only[List.length_cons,tailB,Bool.and_eq_true,decide_eq_true_eq]at hB;refine⟨fun h1=>(by rw[hB.1.1]at h1;cases h1),fun j hj=>?_⟩;rw[hB.1.1]at hj;have hij:j=k:=by simpa using hj
  subst hij;have hd:j ∈ ds:=by simpa using hB.1.2
  have hw:wpOp P ops Q j (wpList P ops Q r) a w:=by unfold wpOp;simp only[h0];exact h
  exact wpOp_mono (fun a' w' h'=>⟨fun hn=>absurd hd hn,tail_ r (j+1) _ a' w' (fun j'=>by have:=hl (j'+1);simpa[Nat.add_assoc,Nat.add_comm 1 j'] using this) hB.2 h'⟩) hw
theorem tail_lit{listed:Array Bool}(k:Nat)(hc:tailB md l0.toArray ds fuel k listed=true)(hn:(l0.drop k).length=fuel)(_hk:k<=l0.length)(h:wpList P l0.toArray Q (l0.drop k) a w):wpAnyLast P md l0.toArray Q S ds fuel listed a w:=by
 subst hn;exact tail_ (l0.drop k) k listed a w (fun j=>by simp) hc h
theorem hq_(hQ:∀(d:Tmp) (v:Value) c a w,Q (.panic c) (a.put (some d) v) w->Q (.panic c) a w)(d:Option Tmp)(v:Value):∀c a w,Q (.panic c) (a.put d v) w->Q (.panic c) a w:=fun c a w h=>by cases d with
 | none=>exact h
 | some d=>exact hQ d v c a w h
def TakesL(P:Program)(ops:Array Oper)(S:World->Prop)(N:Act->Prop):List Oper->Act->Prop
 | [],a=>N a
 | o :: r,a=>∃v,YieldsIf P ops S o v a/\TakesL P ops S N r (a.put o.dst v)
theorem takes_nil(h:N a):TakesL P ops S N [] a:=h
theorem takes_cons{r:List Oper}(hy:YieldsIf P ops S o v a){a':Act}(ha:a.put o.dst v=a')(h:TakesL P ops S N r a'):TakesL P ops S N (o :: r) a:=by
 subst ha;exact⟨v,hy,h⟩
def takesB(md:Region.Mode)(ops:Array Oper)(ds:List Nat)(l':Array Bool):Nat->Nat->Array Bool->Bool
 | 0,_,l=>l==l'
 | c+1,i,l=>Region.free md ops l i&&(Region.ready md ops l).contains i&&Region.closedB md ops l&&Region.lastB md ops l ds i&&takesB md ops ds l' c (i+1) (l.setIfInBounds i true)
theorem takes_go{l':Array Bool}{f:Nat}(hsel:Region.noSelect ops=true)(hQ:∀(d:Tmp) (v:Value) c a w,Q (.panic c) (a.put (some d) v) w->Q (.panic c) a w)(hS:S w):∀(r:List Oper) (i:Nat) (l:Array Bool) (a:Act),(∀j,j<r.length->r[j]? = ops[i+j]?) -> takesB md ops ds l' r.length i l=true->TakesL P ops S (fun a'=>wpAnyLast P md ops Q S ds f l' a' w) r a->wpAnyLast P md ops Q S ds (r.length+f) l a w
 | [],i,l,a,_,hB,h=>by
  have e:l=l':=by simpa[takesB] using hB
  subst e;have h':wpAnyLast P md ops Q S ds f l a w:=h;simpa using h'
 | o :: r,i,l,a,hl,hB,h=>by
  have h0:ops[i]? = some o:=by simpa using(hl 0 s_).symm
  simp only[List.length_cons,takesB,Bool.and_eq_true]at hB;obtain⟨⟨⟨⟨h1,h2⟩,h3⟩,h4⟩,h5⟩:=hB;obtain⟨v,hy,hn⟩:=h;rw[List.length_cons,show r.length+1+f=(r.length+f)+1 by omega];exact wpAnyLast_take h0 hsel h1 h2 h3 h4 (hq_ hQ _ _) hy hS (takes_go hsel hQ hS r (i+1) _ _ (fun j' hj'=>by have:=hl (j'+1) (by simpa using hj');simpa[Nat.add_assoc,Nat.add_comm 1 j'] using this) h5 hn)
theorem takes_{l:Array Bool}(i c f:Nat)(l':Array Bool)(hc:(Region.noSelect l0.toArray&&takesB md l0.toArray ds l' c i l)=true)(hf:fuel=c+f)(hi:i+c<=l0.length)(hQ:∀(d:Tmp) (v:Value) c a w,Q (.panic c) (a.put (some d) v) w->Q (.panic c) a w)(hS:S w)(h:TakesL P l0.toArray S (fun a'=>wpAnyLast P md l0.toArray Q S ds f l' a' w) ((l0.drop i).take c) a):wpAnyLast P md l0.toArray Q S ds fuel l a w:=by
 subst hf;simp only[Bool.and_eq_true]at hc;have hlen:((l0.drop i).take c).length=c:=by rw[List.length_take,List.length_drop];omega
 have:=takes_go (md:=md) (ds:=ds) (l':=l') (f:=f) hc.1 hQ hS ((l0.drop i).take c) i l a (fun j hj=>by rw[hlen]at hj;simp[List.getElem?_take,hj]) (by rw[hlen];exact hc.2) h;rwa [hlen]at this
def puresB(md:Region.Mode)(ops:Array Oper)(l':Array Bool):Nat->Nat->Array Bool->Bool
 | 0,_,l=>l==l'
 | c+1,i,l=>Region.free md ops l i&&(Region.ready md ops l).contains i&&puresB md ops l' c (i+1) (l.setIfInBounds i true)
theorem yields_true(h:YieldsIf P ops (fun _=>True) o v a):Yields P ops o v a:=h.imp (fun⟨hw,hv⟩=>⟨hw,fun w=>hv w trivial⟩) id
theorem pures_go{l':Array Bool}{f:Nat}(hsel:Region.noSelect ops=true)(hQ:∀(d:Tmp) (v:Value) c a w,Q (.panic c) (a.put (some d) v) w->Q (.panic c) a w):∀(r:List Oper) (i:Nat) (l:Array Bool) (a:Act),(∀j,j<r.length->r[j]? = ops[i+j]?) -> puresB md ops l' r.length i l=true->TakesL P ops (fun _=>True) (fun a'=>wpAnyLast P md ops Q S ds f l' a' w) r a->wpAnyLast P md ops Q S ds (r.length+f) l a w
 | [],i,l,a,_,hB,h=>by
  have e:l=l':=by simpa[puresB] using hB
  subst e;have h':wpAnyLast P md ops Q S ds f l a w:=h;simpa using h'
 | o :: r,i,l,a,hl,hB,h=>by
  have h0:ops[i]? = some o:=by simpa using(hl 0 s_).symm
  simp only[List.length_cons,puresB,Bool.and_eq_true]at hB;obtain⟨⟨h1,h2⟩,h5⟩:=hB;obtain⟨v,hy,hn⟩:=h;rw[List.length_cons,show r.length+1+f=(r.length+f)+1 by omega];exact wpAnyLast_any h0 (Region.noSelect_spec hsel) (hq_ hQ _ _) _ l a w (Region.free_spec h0 h1) (by simpa using h2) (yields_true hy) (pures_go hsel hQ r (i+1) _ _ (fun j' hj'=>by have:=hl (j'+1) (by simpa using hj');simpa[Nat.add_assoc,Nat.add_comm 1 j'] using this) h5 hn)
theorem pures_{l:Array Bool}(i c f:Nat)(l':Array Bool)(hc:(Region.noSelect l0.toArray&&puresB md l0.toArray l' c i l)=true)(hf:fuel=c+f)(hi:i+c<=l0.length)(hQ:∀(d:Tmp) (v:Value) c a w,Q (.panic c) (a.put (some d) v) w->Q (.panic c) a w)(h:TakesL P l0.toArray (fun _=>True) (fun a'=>wpAnyLast P md l0.toArray Q S ds f l' a' w) ((l0.drop i).take c) a):wpAnyLast P md l0.toArray Q S ds fuel l a w:=by
 subst hf;simp only[Bool.and_eq_true]at hc;have hlen:((l0.drop i).take c).length=c:=by rw[List.length_take,List.length_drop];omega
 have:=pures_go (md:=md) (ds:=ds) (S:=S) (l':=l') (f:=f) (w:=w) hc.1 hQ ((l0.drop i).take c) i l a (fun j hj=>by rw[hlen]at hj;simp[List.getElem?_take,hj]) (by rw[hlen];exact hc.2) h;rwa [hlen]at this
end
section
variable {P:Program} {Q:Exit->Act->World->Prop} {md:Region.Mode} {S:World->Prop} {ds:List Nat} {ops:Array Oper} {l0:List Oper} {l:Array Bool} {a:Act} {w:World} {fuel:Nat}
theorem ts_(i c f:Nat)(l':Array Bool)(hS:S w)(h:TakesL P l0.toArray S (fun a'=>wpAnyLast P md l0.toArray Q S ds f l' a' w) ((l0.drop i).take c) a)(hc:(Region.noSelect l0.toArray&&takesB md l0.toArray ds l' c i l)=true:=by kernel_rfl)(hf:fuel=c+f:=by rfl)(hi:i+c<=l0.length:=by decide)(hQ:∀(d:Tmp) (v:Value) c a w,Q (.panic c) (a.put (some d) v) w->Q (.panic c) a w:=by exact fun _ _ _ _ _ h=>h):wpAnyLast P md l0.toArray Q S ds fuel l a w:=takes_ i c f l' hc hf hi hQ hS h
theorem ps_(i c f:Nat)(l':Array Bool)(h:TakesL P l0.toArray (fun _=>True) (fun a'=>wpAnyLast P md l0.toArray Q S ds f l' a' w) ((l0.drop i).take c) a)(hc:(Region.noSelect l0.toArray&&puresB md l0.toArray l' c i l)=true:=by kernel_rfl)(hf:fuel=c+f:=by rfl)(hi:i+c<=l0.length:=by decide)(hQ:∀(d:Tmp) (v:Value) c a w,Q (.panic c) (a.put (some d) v) w->Q (.panic c) a w:=by exact fun _ _ _ _ _ h=>h):wpAnyLast P md l0.toArray Q S ds fuel l a w:=pures_ i c f l' hc hf hi hQ h
theorem tl_(k:Nat)(h:wpList P l0.toArray Q (l0.drop k) a w)(hc:tailB md l0.toArray ds fuel k l=true:=by kernel_rfl)(hn:(l0.drop k).length=fuel:=by rfl)(hk:k<=l0.length:=by decide):wpAnyLast P md l0.toArray Q S ds fuel l a w:=tail_lit k hc hn hk h
theorem pr_{id:Nat}(m k:Nat)(l:Array Bool)(h:∀w1,w.drew=w1->wpList P l0.toArray (Qn P .any l0.toArray Q k l) (l0.take m) a w1)(hm:P.follows .mixedOrders=true:=by exact mixed)(hn:l0.length=m+k:=by rfl)(hc:preB .any l0.toArray l m=true:=by kernel_rfl):(Code.region id l0.toArray true).wp P Q a w:=pre_region m k l hm hn hc h
theorem tk_{r:List Oper}(ty:TypeId)(x:Operand)(b k:Nat)(cs:List Value)(hS:∀w,S w->w.rangeAt b k cs){d:TypeDesc}(hu:P.underlying ty=some d)(hd:d.isRow=true)(hi:(P.info? ty).map (·.size)=some cs.length){a':Act}(h:TakesL P ops S N r a')(hw:Region.wanted o (yielded ops a.tmps)=true:=by rfl)(ho:o.op=.load ty x:=by rfl)(hx:a.eval x=.pointer (some ⟨b,k,none⟩):=by rfl)(ha:a.put o.dst (.agg cs.toArray)=a':=by(simp only[Act.put,List.setIfInBounds_toArray,List.set_cons_zero,List.set_cons_succ];rfl)):TakesL P ops S N (o :: r) a:=takes_cons (yieldsIf_load_mid hw ty x ho b k hx cs d hS hu hd hi) ha h
end
end Go.Proofs.YtppjnahcnofokaaGreat.T
namespace Go.Proofs.YtppjnahcnofokaaGreat.T
open Go.RowKit Go.Proofs.YtppjnahcnofokaaGreatW.PrintLast
open Go.Proofs.Tryz
variable{k:IntKind}{a:Act}{b i n B base m fuel D B':Nat}{l ch p t0 q:List Int}{w w' w1 w2:World}{t:TypeId}{P:Int->Int->Prop}{cs:Array Value}{A A':Option Addr}{o oi:Oper}{e s f st fl:Int}{xs:List (List Int×Int×Int×Int)}{ops:Array Oper}{rest l0:List Oper}{v:Value}{r:Option Nat}{rs rs2:List (Option Addr×Nat×Nat×List Int)}{E:Prop}{vs l3:List Value}{ad ai go:List Bool}{N:Act->Prop}{place:Nat->Option (Nat×Nat)}{bad:Bool}{es es':List (Int×List Int)}{T:List TypeId}{ps:List (List Int)}
theorem vw_trange{k:Int}{t:List Int}(_h:VwOk t ad ch)(hC:Cel w b 45 (vw e t ad k ch)):w.rangeAt b 1 (ints .i64 t):=
 Cel.range (l1:=[.int .i64 e]) (l2:=ints .i64 t) (l3:=bools ad++([.int .i64 k]++ints .u8 ch)) (by simpa[vw] using hC)
end Go.Proofs.YtppjnahcnofokaaGreat.T
namespace Go.Proofs.YtppjnahcnofokaaGreat.T
open Go.RowKit Go.Proofs.YtppjnahcnofokaaGreatW.PrintLast
open Go.Proofs.Tryz
variable{k:IntKind}{a:Act}{b i n B base m fuel D B':Nat}{l ch p t0 q:List Int}{w w' w1 w2:World}{t:TypeId}{P:Int->Int->Prop}{cs:Array Value}{A A':Option Addr}{o oi:Oper}{e s f st fl:Int}{xs:List (List Int×Int×Int×Int)}{ops:Array Oper}{rest l0:List Oper}{v:Value}{r:Option Nat}{rs rs2:List (Option Addr×Nat×Nat×List Int)}{E:Prop}{vs l3:List Value}{ad ai go:List Bool}{N:Act->Prop}{place:Nat->Option (Nat×Nat)}{bad:Bool}{es es':List (Int×List Int)}{T:List TypeId}{ps:List (List Int)}
def opv(a b c d e:Int):Value:=.agg #[.int .i64 a,.int .i64 b,.int .i64 c,.int .i64 d,.int .i64 e]
def OpsR(w:World)(A:Option Addr)(n c:Nat)(l:List Int):Prop:=Rg w 5 A n c (ints .i64 l)
theorem OpsR.below{c:Nat}(h:OpsR w A n c l)(hb:Bl w w'):OpsR w' A n c l:=Rg.below h hb
theorem OpsR.at{c:Nat}(h:OpsR w A n c l)(i:Nat)(hi:i<n):∃b o x0 x1 x2 x3 x4,A=some ⟨b,o,none⟩/\b<w.heap.size/\w.cell? ⟨b,o+i*5,none⟩=some (.int .i64 x0)/\w.cell? ⟨b,o+i*5+1,none⟩=some (.int .i64 x1)/\w.cell? ⟨b,o+i*5+2,none⟩=some (.int .i64 x2)/\w.cell? ⟨b,o+i*5+3,none⟩=some (.int .i64 x3)/\w.cell? ⟨b,o+i*5+4,none⟩=some (.int .i64 x4):=by
 have hcap:=h.cap;have hlen:=h.len;rw[ints_len]at hlen;obtain⟨b,o,e,hlt,hr⟩:=h.at_ o_;have hc:∀j,j<5->∃x,w.cell? ⟨b,o+(i*5+j),none⟩=some (.int .i64 x):=fun j hj=>
  ⟨_,hr (i*5+j) _ (ints_get (List.getElem?_eq_getElem o_))⟩
 obtain⟨x0,h0⟩:=hc 0 o_;obtain⟨x1,h1⟩:=hc 1 o_;obtain⟨x2,h2⟩:=hc 2 o_;obtain⟨x3,h3⟩:=hc 3 o_;obtain⟨x4,h4⟩:=hc 4 o_;exact⟨b,o,x0,x1,x2,x3,x4,e,hlt,h0,h1,h2,h3,h4⟩
def LeafR(w:World)(A:Option Addr)(n c:Nat)(l:List Int):Prop:=Rg w 2 A n c (ints .i64 l)
theorem LeafR.below{c:Nat}(h:LeafR w A n c l)(hb:Bl w w'):LeafR w' A n c l:=Rg.below h hb
end Go.Proofs.YtppjnahcnofokaaGreat.T
namespace Go.Proofs.YtppjnahcnofokaaGreat.T
open Go.RowKit Go.Proofs.YtppjnahcnofokaaGreatW.PrintLast
open Go.Proofs.Tryz
variable{k:IntKind}{a:Act}{b i n B base m fuel D B':Nat}{l ch p t0 q:List Int}{w w' w1 w2:World}{t:TypeId}{P:Int->Int->Prop}{cs:Array Value}{A A':Option Addr}{o oi:Oper}{e s f st fl:Int}{xs:List (List Int×Int×Int×Int)}{ops:Array Oper}{rest l0:List Oper}{v:Value}{r:Option Nat}{rs rs2:List (Option Addr×Nat×Nat×List Int)}{E:Prop}{vs l3:List Value}{ad ai go:List Bool}{N:Act->Prop}{place:Nat->Option (Nat×Nat)}{bad:Bool}{es es':List (Int×List Int)}{T:List TypeId}{ps:List (List Int)}
def chg(e:Int)(t:List Int)(ad:List Bool)(k:Int)(ch:List Int)(f:Int)(ai go:List Bool):List Value:=vw e t ad k ch++([.int .i64 f]++(bools ai++bools go))
structure ChOk (t:List Int) (ad:List Bool) (ch:List Int) (ai go:List Bool):Prop where
 vw:VwOk t ad ch
 ai:ai.length=8
 go:go.length=8
theorem bools_set(l:List Bool)(i:Nat)(q:Bool):(bools l).set i (.bool q)=bools (l.set i q):=by simp[bools,List.map_set]
theorem chg_set_ai{k:Int}{t:List Int}(h:ChOk t ad ch ai go)(i:Nat)(hi:i<8)(q:Bool):(chg e t ad k ch f ai go).set (74+i) (.bool q)=chg e t ad k ch f (ai.set i q) go:=by
 unfold chg;rw[List.set_append_right _ _ (by rw[vw_len h.vw];omega),List.set_append_right _ _ (by rw[vw_len h.vw];simp;omega),List.set_append_left _ _ (by rw[vw_len h.vw];simp[bools_len,h.ai];omega),vw_len h.vw,show 74+i-73 - [Value.int IntKind.i64 f].length=i by simp;omega,bools_set]
theorem chg_k{k:Int}{t:List Int}(h:ChOk t ad ch ai go):(chg e t ad k ch f ai go)[40]? = some (.int .i64 k):=by
 unfold chg;rw[List.getElem?_append_left (by rw[vw_len h.vw];omega),vw_k h.vw]
theorem chg_ai{k:Int}{t:List Int}(h:ChOk t ad ch ai go)(i:Nat)(hi:i<8):(chg e t ad k ch f ai go)[74+i]? = some (.bool (ai.getD i false)):=by
 have h2:=h.ai;unfold chg;rw[List.getElem?_append_right (by rw[vw_len h.vw];omega),List.getElem?_append_right (by rw[vw_len h.vw];simp;omega),List.getElem?_append_left (by rw[vw_len h.vw];simp[bools_len,h.ai];omega),vw_len h.vw,show 74+i-73 - [Value.int IntKind.i64 f].length=i by simp;omega,bools,List.getElem?_map,List.getElem?_eq_getElem o_];simp[List.getElem?_eq_getElem (show i<ai.length by omega)]
theorem chg_view{g:Nat}{k:Int}{t:List Int}(h:Cel w g 224 (chg e t ad k ch f ai go)):w.rangeAt g 0 (vw e t ad k ch):=Cel.range (l1:=[]) (l2:=vw e t ad k ch) (l3:=[.int .i64 f]++(bools ai++bools go)) (by simpa[chg] using h)
theorem chg_tree{g:Nat}{k:Int}{t:List Int}(h:Cel w g 224 (chg e t ad k ch f ai go)):w.rangeAt g 1 (ints .i64 t):=Cel.range (l1:=[.int .i64 e]) (l2:=ints .i64 t) (l3:=(bools ad++([.int .i64 k]++ints .u8 ch))++([.int .i64 f]++(bools ai++bools go))) (by simpa[chg,vw] using h)
theorem chg_leaves{g:Nat}{k:Int}{t:List Int}(h:Cel w g 224 (chg e t ad k ch f ai go))(ht:t.length=31):LeafR w (some ⟨g,1,none⟩) 8 8 (t.take 16):=
 ⟨by rw[ints_len,List.length_take,ht];rfl,Nat.le_refl _,fun _=>⟨g,1,rfl,h.lt,range_take (chg_tree h) 16⟩⟩
theorem chg_split{g:Nat}{k:Int}{t:List Int}(h:Cel w g 224 (chg e t ad k ch f ai go)):Cel w g 224 ([.int .i64 e]++ints .i64 t++((bools ad++([.int .i64 k]++ints .u8 ch))++([.int .i64 f]++(bools ai++bools go)))):=by simpa[chg,vw] using h
theorem chg_join{g:Nat}{k:Int}{t:List Int}(h:Cel w g 224 ([.int .i64 e]++ints .i64 t++((bools ad++([.int .i64 k]++ints .u8 ch))++([.int .i64 f]++(bools ai++bools go))))):Cel w g 224 (chg e t ad k ch f ai go):=by simpa[chg,vw] using h
theorem grownBy_tr{a:World}{row:Option Nat}(h:a.grownBy w row)(k:w.grownBy w' row):a.grownBy w' row:=
 ⟨k.os.trans h.os,k.tape.trans h.tape,k.output.trans h.output,Nat.le_trans h.size k.size,fun j hj hne=>(k.block j (Nat.lt_of_lt_of_le hj h.size) hne).trans (h.block j hj hne)⟩
theorem grownBy_of{row:Option Nat}(h:Bl w w'):w.grownBy w' row:=⟨h.os,h.tape,h.output,h.size,fun k hk _=>h.block k hk⟩
theorem grownBy_set1(w:World)(g i:Nat)(v:Value):w.grownBy (w.setCell ⟨g,i,none⟩ v) (some g):=
 ⟨rfl,rfl,rfl,by simp,fun k _ hne=>Below.heap_setCell _ _ _ _ (fun e=>hne (by rw[e]))⟩
end Go.Proofs.YtppjnahcnofokaaGreat.T
namespace Go.Proofs.YtppjnahcnofokaaGreat.T
open Go.RowKit Go.Proofs.YtppjnahcnofokaaGreatW.PrintLast
open Go.Proofs.Tryz
variable{k:IntKind}{a:Act}{b i n B base m fuel D B':Nat}{l ch p t0 q:List Int}{w w' w1 w2:World}{t:TypeId}{P:Int->Int->Prop}{cs:Array Value}{A A':Option Addr}{o oi:Oper}{e s f st fl:Int}{xs:List (List Int×Int×Int×Int)}{ops:Array Oper}{rest l0:List Oper}{v:Value}{r:Option Nat}{rs rs2:List (Option Addr×Nat×Nat×List Int)}{E:Prop}{vs l3:List Value}{ad ai go:List Bool}{N:Act->Prop}{place:Nat->Option (Nat×Nat)}{bad:Bool}{es es':List (Int×List Int)}{T:List TypeId}{ps:List (List Int)}
theorem grownBy_drew'{row:Option Nat}(h:w.grownBy w' row):w.grownBy w'.drew row:=⟨h.os,h.tape,h.output,h.size,h.block⟩
end Go.Proofs.YtppjnahcnofokaaGreat.T
namespace Go.Proofs.YtppjnahcnofokaaGreat.T
open Go.RowKit Go.Proofs.YtppjnahcnofokaaGreatW.PrintLast
open Go.Proofs.Tryz
variable{k:IntKind}{a:Act}{b i n B base m fuel D B':Nat}{l ch p t0 q:List Int}{w w' w1 w2:World}{t:TypeId}{P:Int->Int->Prop}{cs:Array Value}{A A':Option Addr}{o oi:Oper}{e s f st fl:Int}{xs:List (List Int×Int×Int×Int)}{ops:Array Oper}{rest l0:List Oper}{v:Value}{r:Option Nat}{rs rs2:List (Option Addr×Nat×Nat×List Int)}{E:Prop}{vs l3:List Value}{ad ai go:List Bool}{N:Act->Prop}{place:Nat->Option (Nat×Nat)}{bad:Bool}{es es':List (Int×List Int)}{T:List TypeId}{ps:List (List Int)}
end Go.Proofs.YtppjnahcnofokaaGreat.T
namespace Go.Proofs.YtppjnahcnofokaaGreat.T
open Go.RowKit Go.Proofs.YtppjnahcnofokaaGreatW.PrintLast
open Go.Proofs.Tryz
variable{k:IntKind}{a:Act}{b i n B base m fuel D B':Nat}{l ch p t0 q:List Int}{w w' w1 w2:World}{t:TypeId}{P:Int->Int->Prop}{cs:Array Value}{A A':Option Addr}{o oi:Oper}{e s f st fl:Int}{xs:List (List Int×Int×Int×Int)}{ops:Array Oper}{rest l0:List Oper}{v:Value}{r:Option Nat}{rs rs2:List (Option Addr×Nat×Nat×List Int)}{E:Prop}{vs l3:List Value}{ad ai go:List Bool}{N:Act->Prop}{place:Nat->Option (Nat×Nat)}{bad:Bool}{es es':List (Int×List Int)}{T:List TypeId}{ps:List (List Int)}
def OwnR(w:World)(n:Nat)(r:Ending)(w':World):Prop:=∃A c,r=.returned (.slice A n c)/\OwnB w' w.heap.size (.slice A n c) n
theorem vOps_any(A:Option Addr)(n c:Nat)(l:List Int)(w:World)(hr:OpsR w A n c l)(hn:n<=1000):Calls prog 98 #[.slice A n c] w fun r w'=>OwnR w (n*40) r w'/\Bl w w':=by
 have HR:=hd_ hr;clear hr;go_enter func98,ntmps98
 go_wp2_with fail;go_loopw [3,10] (fun vx v wr=>∃(i m:Nat) (A3:Option Addr) (c3:Nat),v=.int .i64 i/\vx=.slice A3 m c3/\i<=n/\m=i*40/\Hid (OwnB wr w.heap.size (.slice A3 m c3) m)/\Hid (Bl w wr)) (fun _ v _=>n-(intOf v).toNat)
 case atStart=>exact⟨0,0,none,0,rfl,rfl,Nat.zero_le _,rfl,OwnB.nil _ _,Below.refl _ _⟩
 case round=>
  obtain⟨wa,rfl⟩:=ex_ (wr);obtain⟨i,m,A3,c3,rfl,rfl,hi,hm,hO,hb⟩:=hrel;have HM:=hd_ hm;clear hm;by_cases hlt:i<n
  · obtain⟨b,o,x0,x1,x2,x3,x4,rfl,_,k0,k1,k2,k3,k4⟩:=(HR.out.below hb.out).at i hlt;have hcap:=HR.out.cap;go_wp2_with fail;obtain⟨w1,hW⟩:=ex_ ((wa.alloc (.cells #[.int .i64 x0,.int .i64 x1,.int .i64 x2,.int .i64 x3,.int .i64 x4] 55)).alloc (.cells #[.int .i64 x0,.int .i64 x1,.int .i64 x2,.int .i64 x3,.int .i64 x4] 3));(have HB:Hid (Blk w1 (wa.heap.size+1) .i64 3 [x0,x1,x2,x3,x4]):=by rw[hW];exact blk_new _ .i64 3 [x0,x1,x2,x3,x4] _ s_);(have hb1:Bl wa w1:=by rw[hW];exact bal b0_);have HO1:Hid (OwnB w1 w.heap.size (.slice A3 m c3) m):=hO.out.below hb1;(have HN:Hid ((Value.slice A3 m c3).ownBlock≠some (wa.heap.size+1)):=by obtain⟨l0,_,ho⟩:=hO.out;exact fun e=>by have:=(ho.lt _ e).2;omega);have Hb1:=tb_ hb hb1;have HW:=hd_ hW;clear hW hb1 k0 k1 k2 k3 k4;(go_loopw [3,28] (fun vx v wr2=>∃(j m2:Nat) (A3:Option Addr) (c3:Nat),v=.int .i64 j/\vx=.slice A3 m2 c3/\j<=5/\m2=i*40+j*8/\Hid (OwnB wr2 w.heap.size (.slice A3 m2 c3) m2)/\Hid (Bl w wr2)/\Hid (Blk wr2 (wa.heap.size+1) .i64 3 [x0,x1,x2,x3,x4])/\Hid ((Value.slice A3 m2 c3).ownBlock≠some (wa.heap.size+1))) (fun _ v _=>5-(intOf v).toNat));(case atStart=>rw[<-HW.out];exact⟨0,m,A3,c3,rfl,rfl,Nat.zero_le _,HM.out,HO1,Hb1,HB,HN⟩);case round=>
     clear HM HB HO1 HN Hb1 HW hO hb;obtain⟨j,m2,A3,c3,rfl,rfl,hj,hm2,hO,hb,HB,HN⟩:=hrel;have HM2:=hd_ hm2;(have hm2b:m2<=40040:=by omega);clear hm2;by_cases hlj:j<5;(· obtain⟨y,hy⟩:∃y,wr.cell? ⟨wa.heap.size+1,j,none⟩=some (.int .i64 y):=⟨_,HB.out.cell (List.getElem?_eq_getElem (by show j<5;omega))⟩;have HN0:=HN;go_wp2_with fail;refine(num_any y wr).mono ?_;rintro _ w4 ⟨⟨A4,c4,l4,rfl,ho4,hl4⟩,hb4⟩;have HR4:Hid (Rd w4 .u8 A4 8 c4 l4):=rd_own ho4 hl4;obtain⟨l3,hl3,hO3⟩:=hO.out.below hb4;have HO3:=hd_ hO3;have HL3:=hd_ hl3;have HB4:=hd_ (HB.out.below hb4 HB.out.lt);have Hb4:=tb_ hb hb4;clear hb4 ho4 hl4 hO3 hl3 hy;go_wp2_with (at_builtin;refine append_rg rfl (.tmp 32) (.tmp 34) 31 rfl w.heap.size 5 1 1 et31 (.slice A3 m2 c3) m2 (ints .u8 l3) rfl HO3.out A4 8 c4 (ints .u8 l4) rfl HR4.out.rg ints_one o_ (by unfold maxLen;omega) Hb4.out.size ?_;intro A7 c7 w7 hown7 hgrow hb7 hat);have HO7:Hid (OwnB w7 w.heap.size (.slice A7 (m2+8) c7) (m2+8)):=OwnB.app HL3.out HR4.out.len hown7;have HB7:Hid (Blk w7 (wa.heap.size+1) .i64 3 [x0,x1,x2,x3,x4]):=Cel.blk (HB4.out.cel.grown hgrow (fun e=>HN.out e.symm));(have HN7:Hid ((Value.slice A7 (m2+8) c7).ownBlock≠some (wa.heap.size+1)):=by have hlt:=HB4.out.lt;(rcases hat with e|e);(· show _≠_;rw[e];exact HN.out);show _≠_;rw[e];intro e';injection e' with e';omega);have Hb7:=hd_ (Hb4.out.trans hb7);clear hown7 hgrow hb7 hat;go_wp2_with fail;go_roundw;(case rel=>exact⟨j+1,m2+8,A7,c7,by go_num,rfl,by omega,by have:=HM2.out;omega,HO7,Hb7,HB7,HN7⟩);case measure=>simp[intOf];omega);(have hm:m2=(i+1)*40:=by have:=HM2.out;omega);have HMi:=hd_ hm;clear hm;go_wp2_with fail;exact⟨⟨i+1,m2,A3,c3,by go_num,rfl,by omega,HMi.out,hO,hb⟩,by simp[intOf];omega⟩
  go_wp2_with fail;go_ret;have e:n*40=m:=by have:=HM.out;omega
  rw[e];exact⟨⟨_,_,rfl,hO.out⟩,hb.out⟩
end Go.Proofs.YtppjnahcnofokaaGreat.T
namespace Go.Proofs.YtppjnahcnofokaaGreat.T
open Go.RowKit Go.Proofs.YtppjnahcnofokaaGreatW.PrintLast
open Go.Proofs.Tryz
variable{k:IntKind}{a:Act}{b i n B base m fuel D B':Nat}{l ch p t0 q:List Int}{w w' w1 w2:World}{t:TypeId}{P:Int->Int->Prop}{cs:Array Value}{A A':Option Addr}{o oi:Oper}{e s f st fl:Int}{xs:List (List Int×Int×Int×Int)}{ops:Array Oper}{rest l0:List Oper}{v:Value}{r:Option Nat}{rs rs2:List (Option Addr×Nat×Nat×List Int)}{E:Prop}{vs l3:List Value}{ad ai go:List Bool}{N:Act->Prop}{place:Nat->Option (Nat×Nat)}{bad:Bool}{es es':List (Int×List Int)}{T:List TypeId}{ps:List (List Int)}
theorem vw_crange{k:Int}{t:List Int}(h:VwOk t ad ch)(hC:Cel w b 45 (vw e t ad k ch)):w.rangeAt b 41 (ints .u8 ch):=by
 have:=Cel.range (l1:=.int .i64 e :: (ints .i64 t++(bools ad ++ [.int .i64 k]))) (l2:=ints .u8 ch) (l3:=[]) (by simpa[vw] using hC);have e:(Value.int IntKind.i64 e :: (ints .i64 t++(bools ad ++ [Value.int .i64 k]))).length=41:=by simp[ints_len,bools_len,h.tree,h.admins]
 rw[e]at this;exact this
theorem OwnB.drew(h:OwnB w base v n):OwnB w.drew base v n:=by
 obtain⟨l,h1,h2⟩:=h;exact⟨l,h1,h2.drew⟩
theorem rd_blk(h:Blk w b .u8 t l)(hn:l.length=n):Rd w .u8 (some ⟨b,0,none⟩) n n l:=by
 subst hn;exact⟨rfl,Nat.le_refl _,fun _=>⟨b,0,rfl,h.lt,h.range⟩⟩
theorem hi43(h:l.length=32):Hid ((prog.info? 43).map (·.size)=some (ints .u8 l).length):=by show _=_;rw[ints_len,h];exact info43
theorem vHash_any(e k:Int)(t ch:List Int)(ad:List Bool)(w:World)(h:VwOk t ad ch):Calls prog 97 #[.agg (vw e t ad k ch).toArray] w fun r w'=>IsH r/\Bl w w':=by
 obtain⟨w1,hW⟩:=ex_ ((w.alloc (.cells (vw e t ad k ch).toArray 45)).alloc (.cells (ints .u8 zl).toArray 43));have HC:Hid (Cel w1 w.heap.size 45 (vw e t ad k ch)):=by rw[hW];exact(Cel.new _ rfl rfl).alloc _
 have HZ:Hid (Row w1 (w.heap.size+1) .u8 43 32):=by rw[hW];exact Row.new zl _ rfl s_
 have Hb:Hid (Bl w w1):=by rw[hW];exact bal b0_
 have HV:=hd_ h;have HW:=hd_ hW;have HR:Hid (w1.rangeAt w.heap.size 32 (bools ad)):=by
  have:=Cel.range (l1:=.int .i64 e :: ints .i64 t) (l2:=bools ad) (l3:=[.int .i64 k]++ints .u8 ch) (by simpa[vw] using HC.out);have e:(Value.int IntKind.i64 e :: ints .i64 t).length=32:=by simp[ints_len,h.tree]
  rw[e]at this;exact this
 have HI:Hid ((prog.info? 41).map (·.size)=some (bools ad).length):=by show _=_;rw[bools_len,h.admins];exact info41
 have HIc:=hi43 h.chain;clear hW h;go_enter func97,ntmps97
 go_wp2_with ((change wpList _ _ _ _ _ ((w.alloc (.cells (vw e t ad k ch).toArray 45)).alloc (.cells (ints .u8 zl).toArray 43)));rw[<-HW.out];refine wpList_load_mid rfl 41 (.tmp 8) rr w.heap.size 32 rr (bools ad) _ HR.out underlying41 rfl HI.out ?_);go_loopw [3,10] (fun vx v wr=>∃(i m:Nat) (A3:Option Addr) (c3:Nat),v=.int .i64 i/\vx=.slice A3 m c3/\i<=8/\m=i/\Hid (OwnB wr w1.heap.size (.slice A3 m c3) m)/\Hid (Bl w1 wr)) (fun _ v _=>8-(intOf v).toNat)
 case atStart=>exact⟨0,0,none,0,rfl,rfl,Nat.zero_le _,rfl,OwnB.nil _ _,Below.refl _ _⟩
 case round=>
  obtain⟨i,m,A3,c3,rfl,rfl,hi,hm,hO,hb⟩:=hrel
  have HM:=hd_ hm
  have hm8:m<=8:=by omega
  clear hm
  by_cases hlt:i<8
  · obtain⟨b,hx⟩:=idx41 ad HV.out.admins i hlt wr;have HX:=hd_ hx;clear hx;obtain⟨l3,hl3,hO3⟩:=hO.out
    cases b with
    | false=>
     have hb1:Bl wr (wr.alloc (.cells #[.int .u8 0] 5)):=b0_;have Hb1:=tb_ hb hb1;have HO3:=hd_ (own_below hO3 hb1);have HL3:=hd_ hl3;clear hb1 hO3 hl3;go_wp2_with (first|(refine wpList_index rfl 41 (.tmp 9) (.tmp 10) rfl _ _ _ rr rr HX.out ?_)|(at_builtin;refine append_rg rfl (.tmp 14) (.tmp 16) 31 rfl w1.heap.size 5 1 1 et31 (.slice A3 m c3) m (ints .u8 l3) rfl HO3.out (some ⟨wr.heap.size,0,none⟩) 1 1 (ints .u8 [0]) rfl (rg_one wr 0) ints_one o_ (by unfold maxLen;omega) Hb1.out.size ?_;intro A4 c4 w4 hown4 hgrow hb4 hat));have HO4:Hid (OwnB w4 w1.heap.size (.slice A4 (m+1) c4) (m+1)):=OwnB.app HL3.out rfl hown4;have Hb4:=hd_ (Hb1.out.trans hb4);clear hown4 hgrow hb4 hat;go_wp2_with fail;exact⟨⟨i+1,m+1,A4,c4,by go_num,rfl,by omega,by have:=HM.out;omega,HO4,Hb4⟩,by simp[intOf];omega⟩
    | true=>
     have hb1:Bl wr (wr.alloc (.cells #[.int .u8 1] 5)):=b0_;have Hb1:=tb_ hb hb1;have HO3:=hd_ (own_below hO3 hb1);have HL3:=hd_ hl3;clear hb1 hO3 hl3;go_wp2_with (first|(refine wpList_index rfl 41 (.tmp 9) (.tmp 10) rfl _ _ _ rr rr HX.out ?_)|(at_builtin;refine append_rg rfl (.tmp 14) (.tmp 16) 31 rfl w1.heap.size 5 1 1 et31 (.slice A3 m c3) m (ints .u8 l3) rfl HO3.out (some ⟨wr.heap.size,0,none⟩) 1 1 (ints .u8 [1]) rfl (rg_one wr 1) ints_one o_ (by unfold maxLen;omega) Hb1.out.size ?_;intro A4 c4 w4 hown4 hgrow hb4 hat));have HO4:Hid (OwnB w4 w1.heap.size (.slice A4 (m+1) c4) (m+1)):=OwnB.app HL3.out rfl hown4;have Hb4:=hd_ (Hb1.out.trans hb4);clear hown4 hgrow hb4 hat;go_wp2_with fail;exact⟨⟨i+1,m+1,A4,c4,by go_num,rfl,by omega,by have:=HM.out;omega,HO4,Hb4⟩,by simp[intOf];omega⟩
  · (have hm:m=8:=by have:=HM.out;omega);subst hm;clear HM hm8;have HC5:=hd_ (HC.out.below hb.out HC.out.lt);go_wp2_with (refine wpList_load_mid rfl 40 (.tmp 19) rr w.heap.size 1 rr (ints .i64 t) _ (vw_trange HV.out HC5.out) underlying40 rfl (hi40 HV.out.tree).out ?_);refine(tHash_any t wr HV.out.tree).mono ?_;rintro _ w6 ⟨⟨lh,hlh,rfl⟩,hb6⟩;have HC6:=hd_ (HC5.out.below hb6 HC5.out.lt);have Hb6:=tb_ hb hb6;have HO6:=hd_ (hO.out.below hb6);have HLh:=hd_ hlh;clear hb6 hlh
    go_wp2_with (refine store_blk rfl 43 (.tmp 7) (.tmp 21) rr w6.heap.size .u8 lh rr rr (Row.new zl _ rfl rfl) HLh.out (by show _=_;rw[HLh.out];exact info43) ?_
                 intro w7 hB7 hg7
                 have HH7:=hd_ hB7
                 have hb7:Bl w6 w7:=b0_.grown hg7 s_ (fun k hk=>by cases hk;omega)
                 have HC7:=hd_ (HC6.out.below hb7 HC6.out.lt)
                 have HO7:=hd_ (HO6.out.below hb7)
                 have Hb7:=tb_ Hb6 hb7
                 clear hB7 hg7 hb7)
    refine pr_ 0 13 (bt 13 0) fun w1d hw1d=>?_;refine mG ?_;obtain⟨w8,hw8⟩:=ex_ (w1d);(have HC8:Hid (Cel w8 w.heap.size 45 (vw e t ad k ch)):=by rw[hw8,<- hw1d];exact HC7.out);(have Hb8:Hid (Bl w1 w8):=by rw[hw8,<- hw1d];exact Hb7.out.drew);(have HH8:Hid (Blk w8 w6.heap.size .u8 43 lh):=by rw[hw8,<- hw1d];exact HH7.out);(have HO8:Hid (OwnB w8 w1.heap.size (.slice A3 8 c3) 8):=by rw[hw8,<- hw1d];exact HO7.out.drew);(have hH:w1d.cell? ⟨w.heap.size,0,none⟩=some (.int .i64 e)/\w1d.cell? ⟨w.heap.size,40,none⟩=some (.int .i64 k)/\Hid (Bl w8 w1d):=by rw[<-hw8];exact⟨HC8.out.cell 0,(HC8.out.cell 40).trans (vw_k HV.out),Below.refl _ _⟩);clear hw1d hw8;refine wpAny_of_last (S:=fun w'=>w'.cell? ⟨w.heap.size,0,none⟩=some (.int .i64 e)/\w'.cell? ⟨w.heap.size,40,none⟩=some (.int .i64 k)/\Hid (Bl w8 w')) (ds:=[11,12]) _ _ _ _ ?_;refine ts_ 0 4 9 (bt 13 15) hH ?_;refine mD ?_;(repeat (first|(refine tk_ 43 (.tmp 22) w.heap.size 41 (ints .u8 ch) (fun _ h=>vw_crange HV.out (HC8.out.below h.2.2.out HC8.out.lt)) underlying43 rfl HIc.out ?_)|(refine uA ?_)|(refine mB3 ?_)));refine takes_nil ?_;refine ts_ 5 2 7 (bt 13 111) hH ?_;refine mD ?_;(repeat (first|(refine tk_ 43 (.tmp 22) w.heap.size 41 (ints .u8 ch) (fun _ h=>vw_crange HV.out (HC8.out.below h.2.2.out HC8.out.lt)) underlying43 rfl HIc.out ?_)|(refine uA ?_)|(refine mB3 ?_)));refine takes_nil ?_;refine ts_ 8 2 5 (bt 13 879) hH ?_;refine mD ?_;(repeat (first|(refine tk_ 43 (.tmp 22) w.heap.size 41 (ints .u8 ch) (fun _ h=>vw_crange HV.out (HC8.out.below h.2.2.out HC8.out.lt)) underlying43 rfl HIc.out ?_)|(refine uA ?_)|(refine mB3 ?_)));refine takes_nil ?_;refine one_ (i:=4) (N:=some 26) (bt 13 895) rfl rfl kk dd (fun K hK=>?_);refine goes_ func38 kk rfl #[.int .i64 e] rr rfl rfl mL ?_;refine(num_any e _).mono ?_;rintro _ w4 ⟨⟨A4,c4,l4,rfl,ho4,hl4⟩,hb4⟩;refine⟨_,rfl,?_⟩;have HR4:Hid (Rd w4 .u8 A4 8 c4 l4):=rd_own ho4 hl4;have hs4:w8.heap.size<=w4.heap.size:=Nat.le_trans hH.2.2.out.size hb4.size;refine hK.out _ _ ⟨(hb4.cell (Nat.lt_of_lt_of_le HC8.out.lt hH.2.2.out.size)).trans hH.1,(hb4.cell (Nat.lt_of_lt_of_le HC8.out.lt hH.2.2.out.size)).trans hH.2.1,hH.2.2.out.trans (hb4.mono hH.2.2.out.size)⟩ (fun hH=>?_);clear hK K ho4 hl4 hb4;refine mN ?_;refine one_ (i:=7) (N:=some 29) (bt 13 1023) rfl rfl kk dd (fun K hK=>?_);refine goes_ func38 kk rfl #[.int .i64 k] rr rfl rfl mL ?_;refine(num_any k _).mono ?_;rintro _ w5 ⟨⟨A5,c5,l5,rfl,ho5,hl5⟩,hb5⟩;refine⟨_,rfl,?_⟩;have HR5:Hid (Rd w5 .u8 A5 8 c5 l5):=rd_own ho5 hl5;have hs5:w8.heap.size<=w5.heap.size:=Nat.le_trans hH.2.2.out.size hb5.size;refine hK.out _ _ ⟨(hb5.cell (Nat.lt_of_lt_of_le HC8.out.lt hH.2.2.out.size)).trans hH.1,(hb5.cell (Nat.lt_of_lt_of_le HC8.out.lt hH.2.2.out.size)).trans hH.2.1,hH.2.2.out.trans (hb5.mono hH.2.2.out.size)⟩ (fun hH=>?_);have HR45:=hd_ (HR4.out.below hb5);clear hK K ho5 hl5 hb5;refine mN ?_;refine one_ (i:=10) (N:=some 32) (bt 13 2047) rfl rfl kk dd (fun K hK=>?_);refine value_ rr rfl (v:=.slice (some ⟨w5.heap.size,0,none⟩) 4 4) (w1:=w5.alloc (.cells #[.slice A4 8 c4,.slice A5 8 c5,.slice A3 8 c3,.slice (some ⟨w6.heap.size,0,none⟩) 32 32] 31)) (by go_simp) ?_;have hbB:Bl w5 (w5.alloc (.cells #[.slice A4 8 c4,.slice A5 8 c5,.slice A3 8 c3,.slice (some ⟨w6.heap.size,0,none⟩) 32 32] 31)):=b0_;have HbC:=hH.2.2;refine hK.out _ _ ⟨(hbB.cell (Nat.lt_of_lt_of_le HC8.out.lt hH.2.2.out.size)).trans hH.1,(hbB.cell (Nat.lt_of_lt_of_le HC8.out.lt hH.2.2.out.size)).trans hH.2.1,hH.2.2.out.trans (hbB.mono hH.2.2.out.size)⟩ (fun hH=>?_);clear hK K hbB;refine mN ?_;refine tl_ 11 ?_;refine mF ?_;have HH9:=hd_ (HH8.out.below HbC.out HH8.out.lt);obtain⟨l8,hl8⟩:=(HO8.out.below HbC.out).rd;have HR8:=hd_ hl8;have Hb9:=hd_ (Hb8.out.trans (HbC.out.mono Hb8.out.size))
    have HRR:Hid (RdR (w5.alloc (.cells #[.slice A4 8 c4,.slice A5 8 c5,.slice A3 8 c3,.slice (some ⟨w6.heap.size,0,none⟩) 32 32] 31)) (some ⟨w5.heap.size,0,none⟩) 4 4 60000 [(A4,8,c4,l4),(A5,8,c5,l5),(A3,8,c3,l8),(some ⟨w6.heap.size,0,none⟩,32,32,lh)]):=rdr_new w5 [(A4,8,c4,l4),(A5,8,c5,l5),(A3,8,c3,l8),(some ⟨w6.heap.size,0,none⟩,32,32,lh)] _ 4 rfl rfl (fun r hr=>by
     simp at hr
     rcases hr with rfl|rfl|rfl|rfl
     · exact⟨HR45.out,by show 8<=_;omega⟩
     · exact⟨HR5.out,by show 8<=_;omega⟩
     · exact⟨HR8.out,by show 8<=_;omega⟩
     · exact⟨rd_blk HH9.out HLh.out,by show 32<=_;omega⟩)
    have HbA:Hid (Bl w1 (w5.alloc (.cells #[.slice A4 8 c4,.slice A5 8 c5,.slice A3 8 c3,.slice (some ⟨w6.heap.size,0,none⟩) 32 32] 31))):=Hb9.out.alloc Hb9.out.size _;clear hl8;go_wp2_with fail;change Calls prog 37 #[.agg (ints .u8 ch).toArray,_,_] _ _;refine(derive_any ch _ _ 4 4 _ _ HV.out.chain dd HRR.out o_).mono ?_;rintro _ wz ⟨⟨lz,hlz,rfl⟩,hbz⟩;have Hbz:=tb_ HbA hbz;have HRz:=HZ.out.below Hbz.out HZ.out.lt;have HLz:=hd_ hlz;have hS:w.heap.size+1<w1.heap.size:=HZ.out.lt;clear hbz hlz;go_wp2_with (refine store_blk rfl 43 (.tmp 2) (.tmp 33) rr (w.heap.size+1) .u8 lz rr rr HRz HLz.out (by show _=_;rw[HLz.out];exact info43) ?_;intro w10 hB10 hg10);have hload:=hB10.loads underlying43 rfl (by show _=_;rw[HLz.out];exact info43);refine bodyPost_ret (v:=.agg (ints .u8 lz).toArray) (by simp[results,results97,asAddr,Act.put,hload]) rfl ⟨⟨lz,HLz.out,rfl⟩,?_⟩;exact(Hb.out.trans (Hbz.out.mono Hb.out.size)).grown hg10 (Nat.le_trans Hb.out.size Hbz.out.size) (fun k hk=>by cases hk;omega)
end Go.Proofs.YtppjnahcnofokaaGreat.T
namespace Go.Proofs.YtppjnahcnofokaaGreat.T
open Go.RowKit Go.Proofs.YtppjnahcnofokaaGreatW.PrintLast
open Go.Proofs.Tryz
variable{k:IntKind}{a:Act}{b i n B base m fuel D B':Nat}{l ch p t0 q:List Int}{w w' w1 w2:World}{t:TypeId}{P:Int->Int->Prop}{cs:Array Value}{A A':Option Addr}{o oi:Oper}{e s f st fl:Int}{xs:List (List Int×Int×Int×Int)}{ops:Array Oper}{rest l0:List Oper}{v:Value}{r:Option Nat}{rs rs2:List (Option Addr×Nat×Nat×List Int)}{E:Prop}{vs l3:List Value}{ad ai go:List Bool}{N:Act->Prop}{place:Nat->Option (Nat×Nat)}{bad:Bool}{es es':List (Int×List Int)}{T:List TypeId}{ps:List (List Int)}
def z32:List Int:=List.replicate 32 0
def zb:List Bool:=List.replicate 8 false
def zvw:List Value:=vw 0 z31 zb 0 z32
theorem zvOk:VwOk z31 zb z32:=⟨rfl,rfl,rfl⟩
theorem bools_one(l:List Bool):∀v ∈ bools l,v.oneCell'=true:=by
 intro v hv;simp only[bools,List.mem_map]at hv;obtain⟨x,_,rfl⟩:=hv;rfl
theorem all_bools(l:List Bool):(bools l).toArray.all (·.oneCell')=true:=all_oneCell_toArray (bools_one l)
theorem hi41{l:List Bool}(h:l.length=8):(prog.info? 41).map (·.size)=some (bools l).length:=by rw[bools_len,h];exact info41
theorem step_store_cel{K:Act->World->Prop}{Q:Exit->Act->World->Prop}(hgd:o.guard=none)(t:TypeId)(x y:Operand)(ho:o.op=.store t x y)(b off:Nat)(u:TypeId)(l1 l0 l3 vs:List Value)(hx:a.eval x=.pointer (some ⟨b,off,none⟩))(hy:a.eval y=.agg vs.toArray)(hR:Cel w b u (l1++l0++l3))(h1:l1.length=off)(hl:l0.length=vs.length)(hi:(prog.info? t).map (·.size)=some vs.length)(hall:vs.toArray.all (·.oneCell')=true)(h:∀W2,Cel W2 b u (l1++vs++l3)->w.grownBy W2 (some b)->K (a.put o.dst undef) W2):if Region.wanted o (yielded ops a.tmps)=true then Oper.wp prog o a w K Q else E:=by
 subst h1;have hw:Region.wanted o (yielded ops a.tmps)=true:=by simp[Region.wanted,hgd]
 rw[if_pos hw];obtain⟨h1,h2⟩:=setCells_cel vs l1 l0 hR hl;exact wp_store_mid t x y ho b l1.length vs.toArray hx hy (hR.there (by simp[hl])) (by rw[hi];simp) hall (h _ h1 h2)
structure ApS (w w':World):Prop where
 c6:Cel w' (w.heap.size+1) 45 zvw
 c7:Cel w' (w.heap.size+1+1) 41 (bools zb)
 c8:Cel w' (w.heap.size+1+1+1) 41 (bools zb)
 below:Bl w w'
theorem ApS.drew(h:ApS w w'):ApS w w'.drew:=⟨h.c6,h.c7,h.c8,h.below.drew⟩
theorem ApS.gr(h:ApS w w1)(hg:w1.grownBy w2 (some b))(hb:w.heap.size+4<=b):ApS w w2:=
 ⟨h.c6.grown hg s1_,h.c7.grown hg s1_,h.c8.grown hg s1_,h.below.grown hg h.below.size (fun k hk=>by cases hk;omega)⟩
theorem ApS.bel(h:ApS w w1)(hb:Bl w1 w2):ApS w w2:=
 ⟨h.c6.below hb h.c6.lt,h.c7.below hb h.c7.lt,h.c8.below hb h.c8.lt,h.below.trans (hb.mono h.below.size)⟩
theorem wpList_build{Q:Exit->Act->World->Prop}(hgd:o.guard=none)(t:TypeId)(ps:Array (Nat×Operand))(ho:o.op=.build t ps)(parts:Array (Nat×Value))(hp:(ps.map fun(i,x)=>(i,a.eval x))=parts)(v:Value)(hrun:(Instr.build t parts).run prog w=.ok v w)(h:wpList prog ops Q rest (a.put o.dst v) w):wpList prog ops Q (o :: rest) a w:=by
 refine wpList_plain hgd fun K hK=>?_;unfold Oper.wp execOp;simp only[ho,hp,Sem.run_bind,hrun,Result.andThen_ok];exact hK _ _ h
theorem fill_fold{off:Nat}:∀(vs l0 l1:List Value) (k:Nat),l0.length=vs.length->l1.length=off+k->(vs.zipIdx k).foldl (fun cs p=>cs.setIfInBounds (off+p.2) p.1) (l1++l0++l3).toArray=(l1++vs++l3).toArray
 | [],l0,l1,k,h,_=>by
  have:l0=[]:=List.length_eq_zero_iff.1 (by simpa using h);subst this;rfl
 | v :: r,[],l1,k,h,_=>by simp at h
 | v :: r,u :: l0,l1,k,h,h1=>by
  rw[List.zipIdx_cons,List.foldl_cons];have e:(l1++u :: l0++l3).toArray.setIfInBounds (off+k) v=((l1 ++ [v])++l0++l3).toArray:=by rw[<-h1];simp
  show(r.zipIdx (k+1)).foldl (fun cs p=>cs.setIfInBounds (off+p.2) p.1) ((l1++u :: l0++l3).toArray.setIfInBounds (off+k) v)=_;rw[e,fill_fold r l0 (l1 ++ [v]) (k+1) (by simpa using h) (by simp[h1];omega)];simp
theorem fill_splice{off size:Nat}{l1 l0:List Value}{rest:List (Nat×Value)}(hp:place i=some (off,size))(hv:v.cells=vs.toArray)(h1:l1.length=off)(h2:vs.length=size)(h0:l0.length=vs.length):Instr.fill place (l1++l0++l3).toArray ((i,v) :: rest)=Instr.fill place (l1++vs++l3).toArray rest:=by
 rw[Instr.fill,hp];have hf:=fill_fold (off:=off) (l3:=l3) vs l0 l1 0 h0 o_;simp only[hv];rw[if_neg s1_];congr 1;rw[<-hf];simp
theorem built224(parts:List (Nat×Value)):prog.built 224 parts=Instr.fill (#[(0,73),(73,1),(74,8),(82,8)][·]?) (chg 0 z31 zb 0 z32 0 zb zb).toArray parts:=by kernel_rfl
theorem run_build224(e k f:Int)(t ch:List Int)(ad:List Bool)(h:VwOk t ad ch)(w:World):(Instr.build 224 #[(0,.agg (vw e t ad k ch).toArray),(1,.int .i64 f)]).run prog w=.ok (.agg (chg e t ad k ch f zb zb).toArray) w:=by
 refine run_build w 224 _ _ ?_;rw[built224];have e1:chg 0 z31 zb 0 z32 0 zb zb=[]++vw 0 z31 zb 0 z32++([.int .i64 0]++(bools zb++bools zb)):=rfl;rw[e1,fill_splice (vs:=vw e t ad k ch) (off:=0) (size:=73) rfl rfl rfl (vw_len h) (by rw[vw_len h,vw_len zvOk])];have e2:([]:List Value)++vw e t ad k ch++([.int .i64 0]++(bools zb++bools zb))=vw e t ad k ch ++ [.int .i64 0]++(bools zb++bools zb):=by simp
 rw[e2,fill_splice (l1:=vw e t ad k ch) (l0:=[.int .i64 0]) (vs:=[.int .i64 f]) (off:=73) (size:=1) rfl rfl (vw_len h) rfl rfl];simp[Instr.fill,chg]
theorem Cel.vload{k:Int}{t:List Int}(h:Cel w b 45 (vw e t ad k ch))(hv:VwOk t ad ch):(loadVar 45 ⟨b,0,none⟩).run prog w=.ok (.agg (vw e t ad k ch).toArray) w:=vw_load hv h
theorem Cel.bload{l:List Bool}(h:Cel w b 41 (bools l))(hl:l.length=8):(loadVar 41 ⟨b,0,none⟩).run prog w=.ok (.agg (bools l).toArray) w:=run_loadVar_mid (P:=prog) _ _ 0 41 (bools l) _ h.all underlying41 rfl (hi41 hl)
theorem chg_airange{g:Nat}{k:Int}{t:List Int}(h:Cel w g 224 (chg e t ad k ch f ai go))(ho:ChOk t ad ch ai go):w.rangeAt g 74 (bools ai):=by
 have:=Cel.range (l1:=vw e t ad k ch ++ [.int .i64 f]) (l2:=bools ai) (l3:=bools go) (by simpa[chg] using h);have e1:(vw e t ad k ch ++ [Value.int .i64 f]).length=74:=by rw[List.length_append,vw_len ho.vw];rfl
 rw[e1]at this;exact this
theorem chg_gorange{g:Nat}{k:Int}{t:List Int}(h:Cel w g 224 (chg e t ad k ch f ai go))(ho:ChOk t ad ch ai go):w.rangeAt g 82 (bools go):=by
 have:=Cel.range (l1:=vw e t ad k ch++([.int .i64 f]++bools ai)) (l2:=bools go) (l3:=[]) (by simpa[chg] using h);have e1:(vw e t ad k ch++([Value.int .i64 f]++bools ai)).length=82:=by rw[List.length_append,vw_len ho.vw,List.length_append,bools_len,ho.ai];rfl
 rw[e1]at this;exact this
structure Ap16 (w w':World):Prop where
 c6:∃v,v.length=73/\Cel w' (w.heap.size+1) 45 v
 c7:∃v,v.length=8/\Cel w' (w.heap.size+1+1) 41 v
 c8:∃v,v.length=8/\Cel w' (w.heap.size+1+1+1) 41 v
 below:Bl w w'
theorem ApS.ap16(h:ApS w w'):Ap16 w w'.drew:=⟨⟨_,vw_len zvOk,h.c6⟩,⟨_,rfl,h.c7⟩,⟨_,rfl,h.c8⟩,h.below.drew⟩
theorem cel_ex{b':Nat}(h:∃v,v.length=n/\Cel w b t v)(hg:w.grownBy w' (some b'))(hne:b≠b'):∃v,v.length=n/\Cel w' b t v:=by
 obtain⟨v,h1,h2⟩:=h;exact⟨v,h1,h2.grown hg (by simpa using hne)⟩
theorem Ap16.gr6(h:Ap16 w w1)(hg:w1.grownBy w2 (some (w.heap.size+1)))(hc:∃v,v.length=73/\Cel w2 (w.heap.size+1) 45 v):Ap16 w w2:=
 ⟨hc,cel_ex h.c7 hg o_,cel_ex h.c8 hg o_,h.below.grown hg h.below.size (fun k hk=>by cases hk;omega)⟩
theorem Ap16.gr7(h:Ap16 w w1)(hg:w1.grownBy w2 (some (w.heap.size+1+1)))(hc:∃v,v.length=8/\Cel w2 (w.heap.size+1+1) 41 v):Ap16 w w2:=
 ⟨cel_ex h.c6 hg o_,hc,cel_ex h.c8 hg o_,h.below.grown hg h.below.size (fun k hk=>by cases hk;omega)⟩
theorem Ap16.gr8(h:Ap16 w w1)(hg:w1.grownBy w2 (some (w.heap.size+1+1+1)))(hc:∃v,v.length=8/\Cel w2 (w.heap.size+1+1+1) 41 v):Ap16 w w2:=
 ⟨cel_ex h.c6 hg o_,cel_ex h.c7 hg o_,hc,h.below.grown hg h.below.size (fun k hk=>by cases hk;omega)⟩
end Go.Proofs.YtppjnahcnofokaaGreat.T
namespace Go.Proofs.YtppjnahcnofokaaGreat.T
open Go.RowKit Go.Proofs.YtppjnahcnofokaaGreatW.PrintLast
open Go.Proofs.Tryz
variable{k:IntKind}{a:Act}{b i n B base m fuel D B':Nat}{l ch p t0 q:List Int}{w w' w1 w2:World}{t:TypeId}{P:Int->Int->Prop}{cs:Array Value}{A A':Option Addr}{o oi:Oper}{e s f st fl:Int}{xs:List (List Int×Int×Int×Int)}{ops:Array Oper}{rest l0:List Oper}{v:Value}{r:Option Nat}{rs rs2:List (Option Addr×Nat×Nat×List Int)}{E:Prop}{vs l3:List Value}{ad ai go:List Bool}{N:Act->Prop}{place:Nat->Option (Nat×Nat)}{bad:Bool}{es es':List (Int×List Int)}{T:List TypeId}{ps:List (List Int)}
theorem ChgK.gr{g:Nat}(h:ChgK g w w'):w.grownBy w' (some g):=⟨h.os,h.tape,h.output,h.size,fun k hk hne=>h.block k hk (fun e=>hne (by rw[e]))⟩
theorem stores3{o1 o2 o3:Oper}{w5:World}{Q:Exit->Act->World->Prop}{k:Int}{t:List Int}(g1:o1.guard=none)(g2:o2.guard=none)(g3:o3.guard=none)(d1:o1.dst=none)(d2:o2.dst=none)(d3:o3.dst=none)(x1 y1 x2 y2 x3 y3:Operand)(ho1:o1.op=.store 45 x1 y1)(ho2:o2.op=.store 41 x2 y2)(ho3:o3.op=.store 41 x3 y3)(hx1:a.eval x1=.pointer (some ⟨w5.heap.size,0,none⟩))(hx2:a.eval x2=.pointer (some ⟨w5.heap.size+1,0,none⟩))(hx3:a.eval x3=.pointer (some ⟨w5.heap.size+1+1,0,none⟩))(hy1:a.eval y1=.agg (vw e t ad k ch).toArray)(hy2:a.eval y2=.agg (bools ai).toArray)(hy3:a.eval y3=.agg (bools go).toArray)(hv:VwOk t ad ch)(hai:ai.length=8)(hgo:go.length=8)(h:∀W8,Cel W8 w5.heap.size 45 (vw e t ad k ch)->Cel W8 (w5.heap.size+1) 41 (bools ai)->Cel W8 (w5.heap.size+1+1) 41 (bools go)->Bl w5 W8->wpList prog ops Q rest a W8):wpList prog ops Q (o1 :: o2 :: o3 :: rest) a (((w5.alloc (.cells zvw.toArray 45)).alloc (.cells (bools zb).toArray 41)).alloc (.cells (bools zb).toArray 41)):=by
 have c1:Cel (((w5.alloc (.cells zvw.toArray 45)).alloc (.cells (bools zb).toArray 41)).alloc (.cells (bools zb).toArray 41)) w5.heap.size 45 zvw:=((Cel.new zvw rfl rfl).alloc _).alloc _;have c2:Cel (((w5.alloc (.cells zvw.toArray 45)).alloc (.cells (bools zb).toArray 41)).alloc (.cells (bools zb).toArray 41)) (w5.heap.size+1) 41 (bools zb):=(Cel.new (bools zb) s_ rfl).alloc _;have c3:Cel (((w5.alloc (.cells zvw.toArray 45)).alloc (.cells (bools zb).toArray 41)).alloc (.cells (bools zb).toArray 41)) (w5.heap.size+1+1) 41 (bools zb):=Cel.new (bools zb) s_ rfl;have hb:Bl w5 (((w5.alloc (.cells zvw.toArray 45)).alloc (.cells (bools zb).toArray 41)).alloc (.cells (bools zb).toArray 41)):=bal (bal b0_);generalize ((w5.alloc (.cells zvw.toArray 45)).alloc (.cells (bools zb).toArray 41)).alloc (.cells (bools zb).toArray 41)=w6 at c1 c2 c3 hb ⊢;refine store_cel g1 45 x1 y1 ho1 w5.heap.size 0 45 [] zvw [] (vw e t ad k ch) hx1 hy1 (by simpa using c1) rfl (by rw[vw_len hv,zvw,vw_len zvOk]) (vw_hi hv) (all_oneCell_toArray (vw_all _ _ _ _ _)) ?_;intro w7 h7 hg7;rw[d1];refine store_cel g2 41 x2 y2 ho2 (w5.heap.size+1) 0 41 [] (bools zb) [] (bools ai) hx2 hy2 (by simpa using c2.grown hg7 s_) rfl (by rw[bools_len ai,hai];rfl) (hi41 hai) (all_bools _) ?_;intro w8 h8 hg8;rw[d2];refine store_cel g3 41 x3 y3 ho3 (w5.heap.size+1+1) 0 41 [] (bools zb) [] (bools go) hx3 hy3 (by simpa using(c3.grown hg7 s1_).grown hg8 s_) rfl (by rw[bools_len go,hgo];rfl) (hi41 hgo) (all_bools _) ?_;intro w9 h9 hg9;rw[d3];have hb7:=hb.grown hg7 hb.size (fun k hk=>by cases hk;omega);have hb8:=hb7.grown hg8 hb7.size (fun k hk=>by cases hk;omega);have hb9:=hb8.grown hg9 hb8.size (fun k hk=>by cases hk;omega);exact h w9 (Cel.grown (Cel.grown (by simpa using h7) hg8 s_) hg9 s1_) (Cel.grown (by simpa using h8) hg9 s_) (by simpa using h9) hb9
end Go.Proofs.YtppjnahcnofokaaGreat.T
namespace Go.Proofs.YtppjnahcnofokaaGreat.T
open Go.RowKit Go.Proofs.YtppjnahcnofokaaGreatW.PrintLast
open Go.Proofs.Tryz
variable{k:IntKind}{a:Act}{b i n B base m fuel D B':Nat}{l ch p t0 q:List Int}{w w' w1 w2:World}{t:TypeId}{P:Int->Int->Prop}{cs:Array Value}{A A':Option Addr}{o oi:Oper}{e s f st fl:Int}{xs:List (List Int×Int×Int×Int)}{ops:Array Oper}{rest l0:List Oper}{v:Value}{r:Option Nat}{rs rs2:List (Option Addr×Nat×Nat×List Int)}{E:Prop}{vs l3:List Value}{ad ai go:List Bool}{N:Act->Prop}{place:Nat->Option (Nat×Nat)}{bad:Bool}{es es':List (Int×List Int)}{T:List TypeId}{ps:List (List Int)}
theorem rd_lit(w:World)(k:IntKind)(t:TypeId)(cs:Array Value)(l:List Int)(n b:Nat)(hcs:cs=(ints k l).toArray)(hn:l.length=n)(hb:w.heap.size=b):Rd (w.alloc (.cells cs t)) k (some ⟨b,0,none⟩) n n l:=by
 subst hcs hb hn;exact⟨rfl,Nat.le_refl _,fun _=>⟨_,_,rfl,by simp,Blk.range (t:=t) (heap_alloc_new _ _)⟩⟩
theorem Rd.ntat{c:Nat}(h:Rd w k A n c l)(i:Nat)(hi:i<n):∃b o x0,A=some ⟨b,o,none⟩/\w.cell? ⟨b,o+i,none⟩=some (.int k x0):=by
 have hcap:=h.cap;have hlen:=h.len;obtain⟨b,o,e,hlt,hr⟩:=h.at_ o_;exact⟨b,o,_,e,hr i _ (ints_get (List.getElem?_eq_getElem o_))⟩
def voteV(a e s:Int):Value:=.agg #[.int .i64 a,.int .i64 e,.int .i64 s]
def VoteR(w:World)(A:Option Addr)(n c:Nat)(l:List Int):Prop:=Rg w 3 A n c (ints .i64 l)
theorem VoteR.below{c:Nat}(h:VoteR w A n c l)(hb:Bl w w'):VoteR w' A n c l:=Rg.below h hb
theorem VoteR.at{c:Nat}(h:VoteR w A n c l)(i:Nat)(hi:i<n):∃b o x0 x1 x2,A=some ⟨b,o,none⟩/\b<w.heap.size/\w.cell? ⟨b,o+i*3,none⟩=some (.int .i64 x0)/\w.cell? ⟨b,o+i*3+1,none⟩=some (.int .i64 x1)/\w.cell? ⟨b,o+i*3+2,none⟩=some (.int .i64 x2):=by
 have hcap:=h.cap;have hlen:=h.len;rw[ints_len]at hlen;obtain⟨b,o,e,hlt,hr⟩:=h.at_ o_;have hc:∀j,j<3->∃x,w.cell? ⟨b,o+(i*3+j),none⟩=some (.int .i64 x):=fun j hj=>
  ⟨_,hr (i*3+j) _ (ints_get (List.getElem?_eq_getElem o_))⟩
 obtain⟨x0,h0⟩:=hc 0 o_;obtain⟨x1,h1⟩:=hc 1 o_;obtain⟨x2,h2⟩:=hc 2 o_;exact⟨b,o,x0,x1,x2,e,hlt,h0,h1,h2⟩
end Go.Proofs.YtppjnahcnofokaaGreat.T
namespace Go.Proofs.YtppjnahcnofokaaGreat.T
open Go.RowKit Go.Proofs.YtppjnahcnofokaaGreatW.PrintLast
open Go.Proofs.Tryz
variable{k:IntKind}{a:Act}{b i n B base m fuel D B':Nat}{l ch p t0 q:List Int}{w w' w1 w2:World}{t:TypeId}{P:Int->Int->Prop}{cs:Array Value}{A A':Option Addr}{o oi:Oper}{e s f st fl:Int}{xs:List (List Int×Int×Int×Int)}{ops:Array Oper}{rest l0:List Oper}{v:Value}{r:Option Nat}{rs rs2:List (Option Addr×Nat×Nat×List Int)}{E:Prop}{vs l3:List Value}{ad ai go:List Bool}{N:Act->Prop}{place:Nat->Option (Nat×Nat)}{bad:Bool}{es es':List (Int×List Int)}{T:List TypeId}{ps:List (List Int)}
theorem info118:(prog.info? 118).map (·.size)=some 3:=by kernel_rfl
theorem OpsR.key{c:Nat}{g:Nat}(h:OpsR w A n c l)(hk:KeyAt w g s)(hc:w.grownBy w' (some g)):OpsR w' A n c l:=by
 refine⟨h.len,h.cap,fun h0=>?_⟩;obtain⟨b,o,e,hlt,hr⟩:=h.at_ h0;refine⟨b,o,e,Nat.lt_of_lt_of_le hlt hc.size,fun j v hv=>?_⟩;by_cases hb:b=g
 · exfalso;subst hb;obtain⟨_,d,p,m,u,hg,_⟩:=hk;(have hj:j<n*5:=by have h1:=(List.getElem?_eq_some_iff.1 hv).1;have h2:=h.len;omega);have hlen:=h.len;rw[ints_len]at hlen;(have hx:∀q,q<5->∃x,w.cell? ⟨b,o+(j / 5*5+q),none⟩=some (.int .i64 x):=fun q hq=>by(have hq2:j / 5*5+q<n*5:=by omega);exact⟨_,hr _ _ (ints_get (List.getElem?_eq_getElem o_))⟩);generalize j / 5*5=J at hx;have hcell:∀q,w.cell? ⟨b,q,none⟩=(KeyC s d p m u)[q]?:=fun q=>cell_of_row _ _ _ _ _ _ hg;(have hlast:o+J+4<7:=by obtain⟨x,hx4⟩:=hx 4 o_;rw[hcell]at hx4;have:=(Array.getElem?_eq_some_iff.1 hx4).1;simp[KeyC]at this;omega);have h1:=hx 0 o_;have h2:=hx 1 o_;simp only[hcell]at h1 h2;(have hcases:o+J=0\/o+J=1\/o+J=2:=by omega);obtain⟨x1,h1⟩:=h1;obtain⟨x2,h2⟩:=h2;rw[<-Nat.add_assoc]at h1 h2;rcases hcases with hq|hq|hq<;>rw[hq]at h1 h2<;>simp[KeyC]at h1 h2
 have:=hr j v hv;rw[<-this];exact World.cell?_of_block (hc.block b hlt (by simpa using hb))
structure AvS (w w':World) (e k:Int) (t ch:List Int) (ad:List Bool) (g:Nat) (s:Int):Prop where
 view:Cel w' w.heap.size 45 (vw e t ad k ch)
 res:Row w' (w.heap.size+1) .i64 118 3
 key:KeyAt w' g s
 old:g<w.heap.size
 frame:ChgK g w w'
theorem KeyAt.gr{g:Nat}{row:Option Nat}(h:KeyAt w g s)(hg:w.grownBy w' row)(hne:some g≠row):KeyAt w' g s:=by
 have hl:=h.lt;obtain⟨hs,d,p,m,u,h,hd⟩:=h;exact⟨hs,d,p,m,u,(hg.block g hl hne).trans h,hd⟩
theorem ChgK.grn{g:Nat}{w'':World}(h:ChgK g w w')(hg:w'.grownBy w'' (some b))(hb:w.heap.size<=b):ChgK g w w'':=
 ⟨hg.os.trans h.os,hg.tape.trans h.tape,hg.output.trans h.output,Nat.le_trans h.size hg.size,fun k hk hne=>(hg.block k (Nat.lt_of_lt_of_le hk h.size) (fun e=>by cases e;omega)).trans (h.block k hk hne)⟩
theorem AvS.gr{k:Int}{t:List Int}{g:Nat}(h:AvS w w1 e k t ch ad g s)(hg:w1.grownBy w2 (some b))(hb:w.heap.size+2<=b):AvS w w2 e k t ch ad g s:=
 ⟨h.view.grown hg s1_,h.res.grown hg s1_,h.key.gr hg (by have:=h.old;simp;omega),h.old,h.frame.grn hg o_⟩
theorem AvS.bel{k:Int}{t:List Int}{g:Nat}(h:AvS w w1 e k t ch ad g s)(hb:Bl w1 w2):AvS w w2 e k t ch ad g s:=
 ⟨h.view.below hb h.view.lt,h.res.below hb h.res.lt,h.key.below hb h.key.lt,h.old,h.frame.trans (ChgK.of_below hb)⟩
theorem AvS.kc{k:Int}{t:List Int}{g:Nat}(h:AvS w w1 e k t ch ad g s)(hk:KeyAt w2 g s)(hc:ChgK g w1 w2):AvS w w2 e k t ch ad g s:=
 ⟨h.view.grown hc.gr (by have:=h.old;simp;omega),h.res.grown hc.gr (by have:=h.old;simp;omega),hk,h.old,h.frame.trans hc⟩
theorem AvS.drew{k:Int}{t:List Int}{g:Nat}(h:AvS w w1 e k t ch ad g s):AvS w w1.drew e k t ch ad g s:=
 h.bel (Below.refl _ _).drew
theorem apvEnd{k:Int}{t:List Int}{g:Nat}(h:AvS w w1 e k t ch ad g s)(hg:w1.grownBy w2 (some (w.heap.size+1))):KeyAt w2 g s/\ChgK g w w2:=
 ⟨h.key.gr hg (by have:=h.old;simp;omega),h.frame.grn hg o_⟩
end Go.Proofs.YtppjnahcnofokaaGreat.T
namespace Go.Proofs.YtppjnahcnofokaaGreat.T
open Go.RowKit Go.Proofs.YtppjnahcnofokaaGreatW.PrintLast
open Go.Proofs.Tryz
variable{k:IntKind}{a:Act}{b i n B base m fuel D B':Nat}{l ch p t0 q:List Int}{w w' w1 w2:World}{t:TypeId}{P:Int->Int->Prop}{cs:Array Value}{A A':Option Addr}{o oi:Oper}{e s f st fl:Int}{xs:List (List Int×Int×Int×Int)}{ops:Array Oper}{rest l0:List Oper}{v:Value}{r:Option Nat}{rs rs2:List (Option Addr×Nat×Nat×List Int)}{E:Prop}{vs l3:List Value}{ad ai go:List Bool}{N:Act->Prop}{place:Nat->Option (Nat×Nat)}{bad:Bool}{es es':List (Int×List Int)}{T:List TypeId}{ps:List (List Int)}
theorem own_base{b':Nat}(h:OwnB w b v n)(hb:b'<=b):OwnB w b' v n:=by
 obtain⟨l,hl,ho⟩:=h;exact⟨l,hl,own_mono ho hb⟩
theorem grownBy_far{g:Nat}(h:w.grownBy w1 (some g))(hg:w1.grownBy w2 (some b))(hb:w.heap.size<=b):w.grownBy w2 (some g):=
 ⟨hg.os.trans h.os,hg.tape.trans h.tape,hg.output.trans h.output,Nat.le_trans h.size hg.size,fun k hk hne=>(hg.block k (Nat.lt_of_lt_of_le hk h.size) (fun e=>by cases e;omega)).trans (h.block k hk hne)⟩
end Go.Proofs.YtppjnahcnofokaaGreat.T
namespace Go.Proofs.YtppjnahcnofokaaGreat.T
open Go.RowKit Go.Proofs.YtppjnahcnofokaaGreatW.PrintLast
open Go.Proofs.Tryz
variable{k:IntKind}{a:Act}{b i n B base m fuel D B':Nat}{l ch p t0 q:List Int}{w w' w1 w2:World}{t:TypeId}{P:Int->Int->Prop}{cs:Array Value}{A A':Option Addr}{o oi:Oper}{e s f st fl:Int}{xs:List (List Int×Int×Int×Int)}{ops:Array Oper}{rest l0:List Oper}{v:Value}{r:Option Nat}{rs rs2:List (Option Addr×Nat×Nat×List Int)}{E:Prop}{vs l3:List Value}{ad ai go:List Bool}{N:Act->Prop}{place:Nat->Option (Nat×Nat)}{bad:Bool}{es es':List (Int×List Int)}{T:List TypeId}{ps:List (List Int)}
theorem addr_add(b o j:Nat):(⟨b,o,none⟩:Addr).add j=⟨b,o+j,none⟩:=by
 by_cases h:j=0
 · subst h;simp[Addr.add]
 simp[Addr.add,h]
end Go.Proofs.YtppjnahcnofokaaGreat.T
namespace Go.Proofs.YtppjnahcnofokaaGreat.T
open Go.RowKit Go.Proofs.YtppjnahcnofokaaGreatW.PrintLast
open Go.Proofs.Tryz
variable{k:IntKind}{a:Act}{b i n B base m fuel D B':Nat}{l ch p t0 q:List Int}{w w' w1 w2:World}{t:TypeId}{P:Int->Int->Prop}{cs:Array Value}{A A':Option Addr}{o oi:Oper}{e s f st fl:Int}{xs:List (List Int×Int×Int×Int)}{ops:Array Oper}{rest l0:List Oper}{v:Value}{r:Option Nat}{rs rs2:List (Option Addr×Nat×Nat×List Int)}{E:Prop}{vs l3:List Value}{ad ai go:List Bool}{N:Act->Prop}{place:Nat->Option (Nat×Nat)}{bad:Bool}{es es':List (Int×List Int)}{T:List TypeId}{ps:List (List Int)}
theorem nums_any(A:Option Addr)(n c:Nat)(l:List Int)(w:World)(hr:Rd w .i64 A n c l)(hn:n<=1000):Calls prog 112 #[.slice A n c] w fun r w'=>OwnR w (n*8) r w'/\Bl w w':=by
 have HR:=hd_ hr;clear hr;go_enter func112,ntmps112
 go_wp2_with fail;go_loopw [3,8] (fun vx v wr=>∃(i m:Nat) (A3:Option Addr) (c3:Nat),v=.int .i64 i/\vx=.slice A3 m c3/\i<=n/\m=i*8/\Hid (OwnB wr w.heap.size (.slice A3 m c3) m)/\Hid (Bl w wr)) (fun _ v _=>n-(intOf v).toNat)
 case atStart=>exact⟨0,0,none,0,rfl,rfl,Nat.zero_le _,rfl,OwnB.nil _ _,Below.refl _ _⟩
 case round=>
  obtain⟨wa,rfl⟩:=ex_ (wr);obtain⟨i,m,A3,c3,rfl,rfl,hi,hm,hO,hb⟩:=hrel;have HM:=hd_ hm;have hm2:m<=8000:=by omega
  clear hm;by_cases hlt:i<n
  · obtain⟨b,o,x,rfl,k0⟩:=(HR.out.below hb.out).ntat i hlt;have hcap:=HR.out.cap;go_wp2_with fail;refine(num_any x wa).mono ?_;rintro _ w4 ⟨⟨A4,c4,l4,rfl,ho4,hl4⟩,hb4⟩;have HR4:Hid (Rd w4 .u8 A4 8 c4 l4):=rd_own ho4 hl4;obtain⟨l3,hl3,hO3⟩:=hO.out.below hb4;have HO3:=hd_ hO3;have HL3:=hd_ hl3;have Hb4:=tb_ hb hb4;clear hb4 ho4 hl4 hO3 hl3 k0;go_wp2_with (at_builtin;refine append_rg rfl (.tmp 12) (.tmp 14) 31 rfl w.heap.size 5 1 1 et31 (.slice A3 m c3) m (ints .u8 l3) rfl HO3.out A4 8 c4 (ints .u8 l4) rfl HR4.out.rg ints_one o_ (by unfold maxLen;omega) Hb4.out.size ?_;intro A7 c7 w7 hown7 hgrow hb7 hat);have HO7:Hid (OwnB w7 w.heap.size (.slice A7 (m+8) c7) (m+8)):=OwnB.app HL3.out HR4.out.len hown7;have Hb7:=hd_ (Hb4.out.trans hb7);clear hown7 hgrow hb7 hat;go_wp2_with fail;go_roundw;(case rel=>exact⟨i+1,m+8,A7,c7,by go_num,rfl,by omega,by have:=HM.out;omega,HO7,Hb7⟩);case measure=>simp[intOf];omega
  go_wp2_with fail;go_ret;have e:n*8=m:=by have:=HM.out;omega
  rw[e];exact⟨⟨_,_,rfl,hO.out⟩,hb.out⟩
theorem info5:∃i z,prog.info? 5=some i/\i.zero=some z/\i.size=1/\i.bytes=1/\z=.int .u8 0:=by
 obtain⟨ht,i,z,hi,hz,h1,h2,h3,h4⟩:=et31;refine⟨i,z,hi,hz,h1,h2,?_⟩;have:(prog.info? 5).bind (·.zero)=some (.int .u8 0):=by kernel_rfl
 rw[hi]at this;simp[hz]at this;exact this
theorem grow_any(n:Nat)(w:World)(hn:n<=100000000):Calls prog 171 #[.slice none 0 0,.int .i64 n] w fun r w'=>OwnR w 0 r w'/\Bl w w':=by
 obtain⟨i,z,hi,hz,h1,h2,rfl⟩:=info5;go_enter func171,ntmps171
 by_cases h0:n=0
 · subst h0;go_wp2_with fail;go_ret;exact⟨⟨_,_,rfl,OwnB.nil _ _⟩,Below.refl _ _⟩
 have happ:=Lib.run_append_nil_zeros (P:=prog) w 31 3 31 5 i (.int .u8 0) .i64 .i64 underlying31 underlying3 hi hz n o_ o_ o_ (by rw[h2];omega);have hcap:=grownCap_ge w n 0 5;have hcap2:=grownCap_le_maxLen w n 0 5 (by unfold maxLen;omega);obtain⟨W1,hW1⟩:=ex_ (w.drew.alloc (.cells (Builtin.zeroCells (Value.int .u8 0).cells n++Builtin.zeroCells (Value.int .u8 0).cells (grownCap w n 0 5-n)) 5));obtain⟨C,hC⟩:=ex_ (grownCap w n 0 5);have hown:OwnB W1 w.heap.size (.slice (some ⟨w.heap.size,0,none⟩) 0 C) 0:=by refine⟨[],rfl,rfl,.inr ⟨w.heap.size,C,_,rfl,Nat.le_refl _,by rw[hW1];exact heap_alloc_new w.drew _,by omega,by rw[hC];exact hcap2,?_,by simp[ints]⟩⟩;rw[Array.size_append,size_zeroCells,size_zeroCells,hC];simp[Value.cells];omega
 have hb:Bl w W1:=by rw[hW1];exact(Below.refl _ _).drew.alloc (Nat.le_refl _) _
 have HO:=hd_ hown;have HB:=hd_ hb;clear hown hb;rw[<-hW1,<- hC]at happ;have HW:=hd_ hW1;have HC:=hd_ hC;have HA:=hd_ happ;clear hW1 hC happ hi hz;go_wp2_with (at_builtin;refine Lib.wpList_append_run w rfl (.tmp 20) (.tmp 21) 31 3 rfl _ _ rfl rfl _ _ HA.out ?_);go_ret;exact⟨⟨_,_,rfl,HO.out⟩,HB.out⟩
def lens(rs:List (Option Addr×Nat×Nat×List Int)):Nat:=(rs.map (fun r=>r.2.1)).sum
theorem RdR.at{c:Nat}(h:RdR w A n c B rs)(i:Nat)(hi:i<n):∃b o A' n' c' l',A=some ⟨b,o,none⟩/\b<w.heap.size/\w.cell? ⟨b,o+i,none⟩=some (.slice A' n' c')/\Rd w .u8 A' n' c' l'/\n'<=B/\lens (rs.take (i+1))=lens (rs.take i)+n':=by
 have hlen:=h.len;have hcap:=h.rg.cap;obtain⟨b,o,e,hlt,hr⟩:=h.rg.at_ o_;have hq:rs[i]? = some rs[i]:=List.getElem?_eq_getElem o_;have hm:=h.each rs[i] (List.getElem_mem _);refine⟨b,o,_,_,_,_,e,hlt,hr i _ (by rw[List.getElem?_map,hq];rfl),hm.1,hm.2,?_⟩;rw[List.take_add_one,hq];simp only[lens,Option.toList,List.map_append,List.map_cons,List.map_nil,List.sum_append,List.sum_cons,List.sum_nil,Nat.add_zero]
theorem lens_le(rs:List (Option Addr×Nat×Nat×List Int))(h:∀r ∈ rs,r.2.1<=B):lens rs<=rs.length*B:=by
 induction rs with
 | nil=>simp[lens]
 | cons r rs ih=>
  have h1:=ih (fun x hx=>h x (List.mem_cons_of_mem _ hx));have h2:=h r List.mem_cons_self;simp only[lens,List.map_cons,List.sum_cons,List.length_cons]at h1 ⊢;rw[Nat.add_mul];omega
theorem RdR.lens_take{c:Nat}(h:RdR w A n c B rs)(i:Nat):lens (rs.take i)<=n*B:=by
 refine Nat.le_trans (lens_le (rs.take i) (fun r hr=>(h.each r (List.mem_of_mem_take hr)).2)) (Nat.mul_le_mul_right B ?_);rw[List.length_take,h.len];omega
theorem concat_any(A:Option Addr)(n c B:Nat)(rs:List (Option Addr×Nat×Nat×List Int))(w:World)(hr:RdR w A n c B rs)(hn:n<=20)(hB:B<=1000000):Calls prog 110 #[.slice A n c] w fun r w'=>OwnR w (lens rs) r w'/\Bl w w':=by
 have HR:=hd_ hr;have hS:∀i,lens (rs.take i)<=20000000:=fun i=>Nat.le_trans (hr.lens_take i) (Nat.mul_le_mul hn hB);have HS:=hd_ hS;have hz:lens (rs.take 0)=0:=rfl;have HZ:=hd_ hz;have he:lens (rs.take n)=lens rs:=by rw[<-hr.len,List.take_length]
 have HE:=hd_ he;clear hr hS hz he;go_enter func110,ntmps110
 go_wp2_with fail;go_loopw [3,11] (fun vx v wr=>∃(i:Nat) (m:Nat),v=.int .i64 i/\vx=.int .i64 m/\i<=n/\Hid (m=lens (rs.take i))/\w=wr) (fun _ v _=>n-(intOf v).toNat)
 case atStart=>exact⟨0,0,rfl,rfl,Nat.zero_le _,HZ.out.symm,rfl⟩
 case round=>
  obtain⟨i,m,rfl,rfl,hi,HM,rfl⟩:=hrel
  by_cases hlt:i<n
  · obtain⟨b,o,A',n',c',l',rfl,_,k0,_,hn',hl⟩:=HR.out.at i hlt;have hcap:=HR.out.rg.cap;(have hm:m+n'<=20000000:=by have:=HS.out (i+1);have:=HM.out;omega);(have HL:Hid (m+n'=lens (rs.take (i+1))):=by have:=HM.out;show _=_;omega);(have hneg:¬((m:Int)+(n':Int)<0):=by omega);clear hl;go_wp2_with fail
    all_goals first
     | (exfalso;omega)
     | (go_roundw
        case rel=>exact⟨i+1,m+n',by go_num,by go_num,by omega,HL,trivial⟩
        case measure=>simp[intOf];omega)
  · (obtain rfl:i=n:=by omega);(have hm:m<=20000000:=by have:=HS.out i;have:=HM.out;omega);go_wp2_with fail;refine(grow_any m w o_).mono ?_;rintro _ w1 ⟨⟨A1,c1,rfl,ho1⟩,hb1⟩;have HO1:=hd_ ho1;have HB1:=hd_ hb1;clear ho1 hb1;go_wp2_with fail;(go_loopw [6,27] (fun vx v wr=>∃(j q:Nat) (A3:Option Addr) (c3:Nat),v=.int .i64 j/\vx=.slice A3 q c3/\j<=i/\Hid (q=lens (rs.take j))/\Hid (OwnB wr w.heap.size (.slice A3 q c3) q)/\Hid (Bl w wr)) (fun _ v _=>i-(intOf v).toNat));(case atStart=>exact⟨0,0,A1,c1,rfl,rfl,Nat.zero_le _,HZ.out.symm,HO1,HB1⟩);case round=>
     obtain⟨wa,rfl⟩:=ex_ (wr);obtain⟨j,q,A3,c3,rfl,rfl,hj,HQ,HO,HB⟩:=hrel;by_cases hlj:j<i;(· obtain⟨b,o,A',n',c',l',rfl,hbl,k0,hrd,hn',hl⟩:=HR.out.at j hlj;have hcap:=HR.out.rg.cap;(have hq:q+n'<=20000000:=by have:=HS.out (j+1);have:=HQ.out;omega);(have HL:Hid (q+n'=lens (rs.take (j+1))):=by have:=HQ.out;show _=_;omega);have k1:wa.cell? ⟨b,o+j,none⟩=some (.slice A' n' c'):=(HB.out.cell (p:=⟨b,o+j,none⟩) hbl).trans k0;have HR4:Hid (Rd wa .u8 A' n' c' l'):=hrd.below HB.out;obtain⟨l3,hl3,hO3⟩:=HO.out;have HO3:=hd_ hO3;have HL3:=hd_ hl3;clear hl k0 hrd hO3 hl3;go_wp2_with (at_builtin;refine append_rg rfl (.tmp 31) (.tmp 32) 31 rfl w.heap.size 5 1 1 et31 (.slice A3 q c3) q (ints .u8 l3) rfl HO3.out A' n' c' (ints .u8 l') rfl HR4.out.rg ints_one o_ (by unfold maxLen;omega) HB.out.size ?_;intro A7 c7 w7 hown7 hgrow hb7 hat);have HO7:Hid (OwnB w7 w.heap.size (.slice A7 (q+n') c7) (q+n')):=OwnB.app HL3.out HR4.out.len hown7;have Hb7:=hd_ (HB.out.trans hb7);clear hown7 hgrow hb7 hat;go_wp2_with fail;go_roundw;(case rel=>exact⟨j+1,q+n',A7,c7,by go_num,rfl,by omega,HL,HO7,Hb7⟩);case measure=>simp[intOf];omega);(obtain rfl:j=i:=by omega);go_wp2_with fail;go_ret;(have e:lens rs=q:=by have:=HQ.out;have:=HE.out;omega);rw[e];exact⟨⟨_,_,rfl,HO.out⟩,HB.out⟩
end Go.Proofs.YtppjnahcnofokaaGreat.T
namespace Go.Proofs.YtppjnahcnofokaaGreat.T
open Go.RowKit Go.Proofs.YtppjnahcnofokaaGreatW.PrintLast
open Go.Proofs.Tryz
variable{k:IntKind}{a:Act}{b i n B base m fuel D B':Nat}{l ch p t0 q:List Int}{w w' w1 w2:World}{t:TypeId}{P:Int->Int->Prop}{cs:Array Value}{A A':Option Addr}{o oi:Oper}{e s f st fl:Int}{xs:List (List Int×Int×Int×Int)}{ops:Array Oper}{rest l0:List Oper}{v:Value}{r:Option Nat}{rs rs2:List (Option Addr×Nat×Nat×List Int)}{E:Prop}{vs l3:List Value}{ad ai go:List Bool}{N:Act->Prop}{place:Nat->Option (Nat×Nat)}{bad:Bool}{es es':List (Int×List Int)}{T:List TypeId}{ps:List (List Int)}
theorem ints_set(l:List Int)(i:Nat)(x:Int):(ints .i64 l).set i (.int .i64 x)=ints .i64 (l.set i x):=by simp[ints,List.map_set]
theorem vw_set_t{k:Int}{t:List Int}(h:VwOk t ad ch)(i:Nat)(hi:i<31)(x:Int):(vw e t ad k ch).set (1+i) (.int .i64 x)=vw e (t.set i x) ad k ch:=by
 unfold vw;have h1:=h.tree;rw[List.set_append_right _ _ s_,List.set_append_left _ _ (by simp[ints_len];omega),show 1+i - [Value.int IntKind.i64 e].length=i by simp,ints_set]
theorem vw_csplit{k:Int}{t:List Int}:vw e t ad k ch=([.int .i64 e]++(ints .i64 t++(bools ad ++ [.int .i64 k])))++ints .u8 ch ++ []:=by simp[vw]
end Go.Proofs.YtppjnahcnofokaaGreat.T
