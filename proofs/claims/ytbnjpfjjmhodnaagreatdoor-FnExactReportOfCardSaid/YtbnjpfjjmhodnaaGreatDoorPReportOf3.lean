/-
  Parts of the proof, put together by program.
-/
import Derived.Test.YtbnjpfjjmhodnaaGreatDoorPReportOf2
set_option linter.unusedVariables false
set_option linter.unusedSimpArgs false
set_option linter.unusedSectionVars false
namespace Go.Proofs.YtbnjpfjjmhodnaaGreatDoor
open Go Go.Sh Go.Proofs
open Rep (rep)
def F216 (a0 a1:Value) (w:World) (R:VW):Prop:=
 cL 139 [a0,a1] w fun x7 w=>
 BR x7
 (R a0 w)
 (oP (Instr.buildSlice 22 1 #[(0,a1)]) w fun x11 w=>
 oP (Builtin.append_ #[22,22] 22 [a0,x11].toArray) w fun x12 w=>
 R x12 w)
def cfg216:Cfg:=⟨extL,[],[],[],[],[],[]⟩
theorem F216_call {a0 a1:Value} {w:World} {R:VW} (h:F216 a0 a1 w R):cL 216 [a0,a1] w R:=co (g:=cfg216) Tryz.func216 (by kernel_rfl) (by kernel_rfl) (by kernel_rfl) h
def F178 (a0 a1:Value) (w:World) (R:VW):Prop:=
 oP (Instr.box 92 a1) w fun x3 w=>
 rF 92 x3 0 w fun x7=>
 rL 3 x7 w fun x8=>
 rB .eql 3 T0 U0 x8 (iV 2) w fun x9=>
 BR x9
 (rF 92 x3 2 w fun x11=>
 rL 9 x11 w fun x12=>
 cL 216 [a0,x12] w fun x13 w=>
 R x13 w)
 (rF 92 x3 3 w fun x14=>
 rL 90 x14 w fun x15=>
 rN 90 3 x15 w fun x16=>
 LOOPI [0,17] [a0,(iV 0)] w fun u4 w next4=>
 rC (u4 17) x16 w fun x18=>
 BR x18
 (rX 90 x15 (u4 17) w fun x19=>
 rL 92 x19 w fun x20=>
 oP (Instr.alloc 92 true (.tuple #[])) w fun x6 w=>
 oS 92 x6 x20 w fun w=>
 rL 92 x6 w fun x22=>
 cL 178 [(u4 0),x22] w fun x23 w=>
 rA (u4 17) (iV 1) w fun x24=>
 next4 [x23,x24] w)
 (R (u4 0) w))
def cfg178:Cfg:=⟨extL,[],[(4,33423425,[0,17])],[],[],[],[]⟩
theorem F178_call {a0 a1:Value} {w:World} {R:VW} (h:F178 a0 a1 w R):cL 178 [a0,a1] w R:=co (g:=cfg178) Tryz.func178 (by kernel_rfl) (by kernel_rfl) (by kernel_rfl) h
def F120 (a0 a1:Value) (w:World) (R:VW):Prop:=
 oP (Instr.box 92 a0) w fun x2 w=>
 rF 92 x2 0 w fun x7=>
 rL 3 x7 w fun x8=>
 rB .eql 3 T0 U0 x8 (iV 2) w fun x9=>
 BR x9
 (LOOPI [5] [(iV 0)] w fun u3 w next3=>
 rN 22 3 a1 w fun x12=>
 rC (u3 5) x12 w fun x13=>
 BR x13
 ((fun w=>rX 22 a1 (u3 5) w fun x18=>
 rL 9 x18 w fun x19=>
 rF 92 x2 2 w fun x20=>
 rL 9 x20 w fun x21=>
 rB .eql 9 T0 T0 x19 x21 w fun x22=>
 BR x22
 (R a1 w)
 (rA (u3 5) (iV 1) w fun x15=>
 next3 [x15] w)) (World.drew1 w))
 (rF 92 x2 2 w fun x25=>
 rL 9 x25 w fun x26=>
 oP (Instr.buildSlice 22 1 #[(0,x26)]) w fun x27 w=>
 oP (Builtin.append_ #[22,22] 22 [a1,x27].toArray) w fun x28 w=>
 R x28 w))
 (LOOPI [1,6] [a1,(iV 0)] w fun u9 w next9=>
 rF 92 x2 3 w fun x30=>
 rL 90 x30 w fun x31=>
 rN 90 3 x31 w fun x32=>
 rC (u9 6) x32 w fun x33=>
 BR x33
 (rF 92 x2 3 w fun x36=>
 rL 90 x36 w fun x37=>
 rX 90 x37 (u9 6) w fun x39=>
 rL 92 x39 w fun x40=>
 cL 120 [x40,(u9 1)] w fun x42 w=>
 rA (u9 6) (iV 1) w fun x35=>
 next9 [x42,x35] w)
 (R (u9 1) w))
def cfg120:Cfg:=⟨extL,[],[(3,16776240,[5]),(9,8795556151362,[1,6])],[(5,[0,1,2,3,4,5,6],0)],[],[],[]⟩
theorem F120_call {a0 a1:Value} {w:World} {R:VW} (h:F120 a0 a1 w R):cL 120 [a0,a1] w R:=co (g:=cfg120) Tryz.func120 (by kernel_rfl) (by kernel_rfl) (by kernel_rfl) h
def F142 (a0:Value) (w:World) (R:VW):Prop:=
 oP (Instr.box 92 a0) w fun x1 w=>
 rL 92 x1 w fun x3=>
 cL 141 [x3] w fun x4 w=>
 rD (Op.unary .not x4) w fun x5=>
 BR x5
 (R (Value.slice none 0 0) w)
 (rL 92 x1 w fun x6=>
 cL 178 [(Value.slice none 0 0),x6] w fun x7 w=>
 R x7 w)
def cfg142:Cfg:=⟨extL,[],[],[],[],[],[]⟩
theorem F142_call {a0:Value} {w:World} {R:VW} (h:F142 a0 w R):cL 142 [a0] w R:=co (g:=cfg142) Tryz.func142 (by kernel_rfl) (by kernel_rfl) (by kernel_rfl) h
def F69 (a0:Value) (w:World) (R:VW):Prop:=
 oP (Instr.box 92 a0) w fun x1 w=>
 rL 92 x1 w fun x3=>
 cL 68 [x3] w fun x4 w=>
 rD (Op.unary .not x4) w fun x5=>
 BR x5
 (oP (Instr.buildSlice 22 0 #[]) w fun x6 w=>
 R x6 w)
 (rL 92 x1 w fun x7=>
 oP (Instr.buildSlice 22 0 #[]) w fun x8 w=>
 cL 120 [x7,x8] w fun x9 w=>
 R x9 w)
def cfg69:Cfg:=⟨extL,[],[],[],[],[],[]⟩
theorem F69_call {a0:Value} {w:World} {R:VW} (h:F69 a0 w R):cL 69 [a0] w R:=co (g:=cfg69) Tryz.func69 (by kernel_rfl) (by kernel_rfl) (by kernel_rfl) h
def zrB (l:List ByteArray) (s:ByteArray):List ByteArray:=if s∈l then l else l++[s]
theorem zrZ (l:List ByteArray) (s:ByteArray):(zrB l s).length≤l.length+1:=by unfold zrB;split<;>simp
def readsT:Nat→DTerm→List ByteArray→List ByteArray
 | n,t,l=>if t.kind=2 then zrB l t.name else match n with | 0=>l | m+1=>t.kids.foldl (fun l k=>readsT m k l) l
theorem zfn (n:Nat) (t:DTerm) (l:List ByteArray):readsT n t l=if t.kind=2 then zrB l t.name else match n with | 0=>l | m+1=>t.kids.foldl (fun l k=>readsT m k l) l:=readsT.eq_def n t l
theorem zjs {α β:Type} (f:β→α→β) (b:β) {l:List α} {k:Nat} (hk:k<l.length):(l.take (k+1)).foldl f b=f ((l.take k).foldl f b) l[k]:=by
 rw [List.take_succ_eq_append_getElem hk,List.foldl_append];rfl
theorem zih {n:Nat} {t:DTerm} (h:zbD n t=true) (h2:¬t.kind=2):t.kids=[]∨∃ m,n=m+1∧t.kids.length≤2∧∀ k∈t.kids,zbD m k=true:=by
 by_cases h1:t.kind=1
 · rw [zdQ h1] at h
   simp only [Bool.and_eq_true,decide_eq_true_eq] at h
   exact .inl (List.eq_nil_of_length_eq_zero (by omega))
 rw [zbi h1 h2] at h
 simp only [Bool.and_eq_true,decide_eq_true_eq] at h
 obtain ⟨⟨_,h3⟩,h4⟩:=h
 cases n with
 | zero=>simp at h4
 | succ m=>
   refine .inr ⟨m,rfl,?_,fun k hk=>List.all_eq_true.1 h4 k hk⟩
   split at h3<;>omega
theorem zjt:∀ (n:Nat) (t:DTerm) (l:List ByteArray),zbD n t=true→(readsT n t l).length≤l.length+2^n
 | n,t,l,h=>by
   rw [zfn]
   have hp:1≤2^n:=Nat.one_le_two_pow
   split
   · have:=zrZ l t.name;omega
   rename_i h2
   rcases zih h h2 with hk | ⟨m,rfl,hk,hall⟩
   · cases n with
     | zero=>simp
     | succ m=>simp [hk]
   show (t.kids.foldl (fun l k=>readsT m k l) l).length≤_
   have key:∀ (ks:List DTerm) (l:List ByteArray),(∀ k∈ks,zbD m k=true)→(ks.foldl (fun l k=>readsT m k l) l).length≤l.length+ks.length*2^m:=by
     intro ks
     induction ks with
     | nil=>intro l _;simp
     | cons k ks ih=>
       intro l hks
       rw [List.foldl_cons,List.length_cons,Nat.add_mul,Nat.one_mul]
       have h1:=ih (readsT m k l) fun x hx=>hks x (by simp [hx])
       have h2:=zjt m k l (hks k (by simp))
       omega
   have h1:=key t.kids l hall
   have h2:t.kids.length*2^m≤2*2^m:=Nat.mul_le_mul_right _ hk
   rw [Nat.pow_succ];omega
theorem znH {w:World} {v:Value} {l:List ByteArray} {F:List Nat} {s:ByteArray} {ty:TypeId} {K:Value→World→Prop} (hr:RowF F 9 w v l) (hn:F.Nodup) (hs:s.size≤maxLen) (hl:l.length≤1000000)
   (k:∀ v' w',Chg F w w'→(∃ F',RowF F' 9 w' v' (l++[s])∧F'.Nodup∧∀ b∈F',b∈F∨w.heap.size≤b)→K v' w') :
   OP Tryz.prog (Instr.buildSlice 22 1 #[(0,.string s)]) w fun x w1=>OP Tryz.prog (Builtin.append_ #[22,22] ty [v,x].toArray) w1 K:=by
 refine zgh (α:=ByteArray) (x:=s) (F:=[]) u22 ty9 z9 (by decide) ⟨⟨_,⟨rfl,rfl,hs⟩,rfl⟩,List.nodup_nil,Wr.nil _⟩ fun w1 hx1 hm1=>?_
 obtain ⟨a,cap,Fi,xs,he,h1,h2,hc,h4⟩:=zdb hm1.is
 have hFi:=Cells.flat (xs:=xs) hc
 subst hFi
 refine zgg (α:=ByteArray) (m:=[s]) u22 ty9 zc9 (hr.ext hx1) hn he hc (.inr ?_) (Wr.nil _) (by simpa using hn) (by simp only [List.length_cons,List.length_nil,zan];omega) (by simp only [List.length_cons,List.length_nil];omega) fun v' w' F' hch hfull hr' hn' hs'=>?_
 · rcases h4 with h4 | ⟨b,o,ha,hra,_⟩
   · simp at h4
   exact ⟨b,o,ha,hra⟩
 have hown:∀ c∈v.ownBlock.toList,c∈F:=fun c hc=>by
   obtain ⟨xs,Fi,_,_,rfl,_⟩:=hr
   simp only [List.mem_append];exact .inl hc
 refine k v' w' ((Ext.chg F hx1).trans (hch.mono hown)) ⟨F',hr',hn',fun b hb=>?_⟩
 rcases hs' b hb with h | h | h
 · exact .inl h
 · simp at h
 exact .inr (Nat.le_trans hx1.size h)
theorem zoD {w:World} {v:Value} {l:List ByteArray} {F:List Nat} {s:ByteArray} (hr:RowF F 9 w v l) (hn:F.Nodup) (hs:s.size≤maxLen) (hl:l.length≤1000000) :
   CALL Tryz.prog 216 [v,.string s] w fun r w'=>Chg F w w'∧∃ F',RowF F' 9 w' r (zrB l s)∧F'.Nodup∧∀ b∈F',b∈F∨w.heap.size≤b:=by
 refine F216_call ?_
 unfold F216
 refine (zb6 hr.own.is (Ext.refl w)).mono ?_
 rintro _ w1 ⟨hx1,rfl⟩
 refine br (fun c1=>?_) (fun c1=>?_)
 · exact ⟨Ext.chg F hx1,F,by unfold zrB;rw [if_pos c1];exact hr.ext hx1,hn,fun b hb=>.inl hb⟩
 refine znH (hr.ext hx1) hn hs hl fun v' w' hc ⟨F',h1,h2,h3⟩=>⟨(Ext.chg F hx1).trans hc,F',by unfold zrB;rw [if_neg c1];exact h1,h2,fun b hb=>?_⟩
 rcases h3 b hb with h | h
 · exact .inl h
 exact .inr (Nat.le_trans hx1.size h)
def zkd (F:List Nat) (w:World) (l:List ByteArray) (r:Value) (w':World):Prop:=Chg F w w'∧∃ F',RowF F' 9 w' r l∧F'.Nodup∧∀ b∈F',b∈F∨w.heap.size≤b
def zvG (n:Nat):Prop:=∀ {w W:World} {v u:Value} {t:DTerm} {l:List ByteArray} {F:List Nat},Is W v t→Ext W w→RowF F 9 w u l→F.Nodup→(∀ b∈F,W.heap.size≤b)→zbD n t=true→l.length+2^n≤1000 →
 CALL Tryz.prog 178 [u,v] w (zkd F w (readsT n t l))
def zvH (n:Nat):Prop:=∀ {w W:World} {v u:Value} {t:DTerm} {l:List ByteArray} {F:List Nat},Is W v t→Ext W w→RowF F 9 w u l→F.Nodup→(∀ b∈F,W.heap.size≤b)→zbD n t=true→l.length+2^n≤1000 →
 CALL Tryz.prog 120 [v,u] w (zkd F w (readsT n t l))
theorem zke {n:Nat} {t:DTerm} {l:List ByteArray} (h:t.kind=2):readsT n t l=zrB l t.name:=by rw [zfn,if_pos h]
theorem zii {n:Nat} {t:DTerm} {l:List ByteArray} (h:zbD n t=true) (h2:¬t.kind=2) (hl:l.length+2^n≤1000) :
   ∃ m,(t.kids=[]∨n=m+1)∧readsT n t l=t.kids.foldl (fun l k=>readsT m k l) l∧(∀ k∈t.kids,zbD m k=true)∧∀ k,k<t.kids.length→((t.kids.take k).foldl (fun l k=>readsT m k l) l).length+2^m≤1000:=by
 rcases zih h h2 with hk | ⟨m,rfl,hk,hall⟩
 · refine ⟨0,.inl hk,?_,by simp [hk],by simp [hk]⟩
   rw [zfn,if_neg h2,hk]
   cases n<;>rfl
 refine ⟨m,.inr rfl,by rw [zfn,if_neg h2],hall,fun k hkl=>?_⟩
 rw [Nat.pow_succ] at hl
 have key:∀ (ks:List DTerm) (l:List ByteArray),(∀ k∈ks,zbD m k=true)→(ks.foldl (fun l k=>readsT m k l) l).length≤l.length+ks.length*2^m:=by
   intro ks
   induction ks with
   | nil=>intro l _;simp
   | cons k ks ih=>
     intro l hks
     rw [List.foldl_cons,List.length_cons,Nat.add_mul,Nat.one_mul]
     have h1:=ih (readsT m k l) fun x hx=>hks x (by simp [hx])
     have h2:=zjt m k l (hks k (by simp))
     omega
 have h1:=key (t.kids.take k) l fun x hx=>hall x (List.mem_of_mem_take hx)
 have h3:(t.kids.take k).length≤1:=by simp;omega
 have h4:(t.kids.take k).length*2^m≤1*2^m:=Nat.mul_le_mul_right _ h3
 omega
theorem znI {W w:World} {b o:Nat} {t:DTerm} (h:AtB W w b o t):AtB W w b (o+3) t.kids:=by
 have h':AtB W w b o t.tup:=by obtain ⟨F,cs,hr,ha⟩:=h;exact ⟨F,cs,zfS.1 hr,ha⟩
 exact h'.snd.snd.snd
theorem zkf {n:Nat} (ih:∀ m,m+1=n→zvG m):zvG n:=by
 intro w W v u t l F h e hr hn hF ht hl
 refine F178_call ?_
 unfold F178
 refine zaD zdu rfl h e fun w1 hx1 hA hV=>?_
 refine zaa zeO ?_
 refine zab ty3 (zbG hA) (Ext.refl w1) fun _=>?_
 refine zao ?_
 refine br (fun c1=>?_) (fun c1=>?_)
 · refine zaa zdA ?_
   refine zaH ty9 (zbc hA) (Ext.refl w1) fun hS=>?_
   have hp:1≤2^n:=Nat.one_le_two_pow
   refine (zoD (hr.ext hx1) hn hS (by omega)).mono ?_
   rintro r w2 ⟨hc,F',h1,h2,h3⟩
   refine ⟨(Ext.chg F hx1).trans hc,F',by rw [zke c1];exact h1,h2,fun b hb=>?_⟩
   rcases h3 b hb with h | h
   · exact .inl h
   exact .inr (Nat.le_trans hx1.size h)
 obtain ⟨m,hm,he,hks,hlen⟩:=zii ht c1 hl
 refine zaa zb3 ?_
 refine zk0 zhr (znI (ze1 h hV rfl)) (e.trans hx1) (Ext.refl w1) fun v15 h15=>?_
 refine zag u90 h15 ?_
 have hll:=zam h15
 refine zaq t.kids.length (fun k us w'=>∃ q,us=[q,.int .i64 (k:Int)]∧zkd F w ((t.kids.take k).foldl (fun l k=>readsT m k l) l) q w') 0 (Nat.zero_le _) ⟨u,rfl,Ext.chg F hx1,F,by simpa using hr.ext hx1,hn,fun b hb=>.inl hb⟩ ?_
 rintro k mm uu w2 hkm ⟨q,hu,hc2,F2,hr2,hn2,hs2⟩
 obtain ⟨hu0,hu1⟩:=zb1 hu
 try rw [hu0]
 try rw [hu1]
 have hF2:∀ b∈F2,W.heap.size≤b:=fun b hb=>by
   rcases hs2 b hb with h | h
   · exact hF b h
   exact Nat.le_trans e.size h
 have hxW:Ext W w2:=e.chg_trans hc2 hF
 refine zah ?_
 refine br (fun c2=>?_) (fun c2=>?_)
 · have hk:k<t.kids.length:=by omega
   obtain ⟨m',rfl⟩:∃ m',n=m'+1:=by
     rcases hm with h | h
     · rw [h] at hk;simp at hk
     exact ⟨m,h⟩
   have hmm:m'=m:=by
     rcases hm with h | h
     · rw [h] at hk;simp at hk
     omega
   subst hmm
   refine zad u90 zdu h15 hk fun b o hA2=>?_
   refine zac zdu hA2 hxW fun v20 h20=>?_
   refine zbX zuX rfl zdu rfl h20 hxW fun w3 hx3 hA3 hV3=>?_
   refine zbC hV3 (Ext.refl w3) ?_
   refine (ih m' rfl h20 (hxW.trans hx3) (hr2.ext hx3) hn2 hF2 (hks _ (List.getElem_mem hk)) (hlen k hk)).mono ?_
   rintro r w4 ⟨hc4,F4,hr4,hn4,hs4⟩
   refine zaf (by omega) ?_
   refine ⟨mm-1,by omega,k+1,by omega,r,rfl,?_⟩
   refine ⟨?_,F4,by rw [zjs _ _ hk];exact hr4,hn4,fun b hb=>?_⟩
   · -- the blocks of F alone have turned
     refine ⟨hc4.os.trans (hx3.os.trans hc2.os),hc4.tape.trans (hx3.tape.trans hc2.tape),hc4.output.trans (hx3.output.trans hc2.output),Nat.le_trans hc2.size (Nat.le_trans hx3.size hc4.size),fun b hb hbF=>?_⟩
     have hb2:b<w2.heap.size:=Nat.lt_of_lt_of_le hb hc2.size
     have hbF2:b∉F2:=fun hm=>by
       rcases hs2 b hm with h | h
       · exact hbF h
       omega
     rw [hc4.block b (Nat.lt_of_lt_of_le hb2 hx3.size) hbF2,hx3.heap hb2,hc2.block b hb hbF]
   rcases hs4 b hb with h | h
   · exact hs2 b h
   have:=hx3.size;have:=hc2.size;exact .inr (by omega)
 rw [List.take_of_length_le (by omega),←he] at hr2
 exact ⟨hc2,F2,hr2,hn2,hs2⟩
theorem zij:∀ n,zvG n
  | n=>zkf fun m hm=>zij m
termination_by n=>n
decreasing_by omega
theorem zkg {n:Nat} (ih:∀ m,m+1=n→zvH m):zvH n:=by
 intro w W v u t l F h e hr hn hF ht hl
 refine F120_call ?_
 unfold F120
 have hlen:=zam hr.own.is
 have hp:1≤2^n:=Nat.one_le_two_pow
 refine zaD zdu rfl h e fun w1 hx1 hA hV=>?_
 have hg1:w.heap.size<w1.heap.size:=hV.lt
 have hgF:w.heap.size∉F:=fun hm=>by have:=hr.lt _ hm;omega
 refine zaa zeO ?_
 refine zab ty3 (zbG hA) (Ext.refl w1) fun _=>?_
 refine zao ?_
 refine br (fun c1=>?_) (fun c1=>?_)
 · have hr1:=hr.ext hx1
   refine zaq l.length (fun k us w'=>us=[.int .i64 (k:Int)]∧Ext w1 w'∧t.name∉l.take k) 0 (Nat.zero_le _) ⟨rfl,Ext.refl w1,by simp⟩ ?_
   rintro k mm uu w2 hkm ⟨hu,hx2,hinv⟩
   simp only [List.map_cons,List.map_nil,List.cons.injEq,and_true] at hu
   rw [hu]
   refine zag u22 hr1.own.is ?_
   refine zah ?_
   refine br (fun c2=>?_) (fun c2=>?_)
   · have hk:k<l.length:=by omega
     have hx3:=hx2.trans (zak w2)
     refine zad u22 ty9 hr1.own.is hk fun b o hA2=>?_
     refine zaH ty9 hA2 hx3 fun _=>?_
     refine zaa zdA ?_
     refine zaH ty9 (zbc hA) hx3 fun _=>?_
     refine za4 ?_
     refine br (fun c3=>?_) (fun c3=>?_)
     · have hm:t.name∈l:=c3▸List.getElem_mem hk
       refine ⟨Ext.chg F (hx1.trans hx3),F,?_,hn,fun b hb=>.inl hb⟩
       rw [zke c1,zrB,if_pos hm]
       exact hr1.ext hx3
     refine zaf (by omega) ?_
     exact ⟨mm-1,by omega,k+1,by omega,rfl,hx3,zcX hk hinv c3⟩
   rw [List.take_of_length_le (by omega)] at hinv
   have hx3:=hx2.trans (zak w2)
   first
     | refine zaa zdA ?_
     | skip
   refine zaH ty9 (zbc hA) hx2 fun hS=>?_
   refine znH (hr1.ext hx2) hn hS (by omega) fun v' w' hc ⟨F',h1,h2,h3⟩=>?_
   refine ⟨(Ext.chg F (hx1.trans hx2)).trans hc,F',by rw [zke c1,zrB,if_neg hinv];exact h1,h2,fun b hb=>?_⟩
   rcases h3 b hb with h | h
   · exact .inl h
   exact .inr (Nat.le_trans (hx1.trans hx2).size h)
 obtain ⟨m,hm,he,hks,hlen⟩:=zii ht c1 hl
 refine zaq t.kids.length (fun k us w'=>∃ q,us=[q,.int .i64 (k:Int)]∧zkd F w1 ((t.kids.take k).foldl (fun l k=>readsT m k l) l) q w') 0 (Nat.zero_le _) ⟨u,rfl,Chg.refl F w1,F,by simpa using hr.ext hx1,hn,fun b hb=>.inl hb⟩ ?_
 rintro k mm uu w2 hkm ⟨q,hu,hc2,F2,hr2,hn2,hs2⟩
 obtain ⟨hu0,hu1⟩:=zb1 hu
 try rw [hu0]
 try rw [hu1]
 have hF2:∀ b∈F2,W.heap.size≤b:=fun b hb=>by
   rcases hs2 b hb with h | h
   · exact hF b h
   have:=e.size;have:=hx1.size;omega
 have hxW:Ext W w2:=(e.trans hx1).chg_trans hc2 hF
 have hB2:AtB W w2 w.heap.size 0 t:=(ze1 h hV rfl).keep (hc2.block _ hg1 hgF)
 have hA2:=hB2.at hxW
 refine zaa zb3 ?_
 refine zac zhr (zaN hA2) (Ext.refl w2) fun v31 h31=>?_
 refine zag u90 h31 ?_
 have hll:=zam h31
 refine zah ?_
 refine br (fun c2=>?_) (fun c2=>?_)
 · have hk:k<t.kids.length:=by omega
   obtain ⟨m',rfl⟩:∃ m',n=m'+1:=by
     rcases hm with h | h
     · rw [h] at hk;simp at hk
     exact ⟨m,h⟩
   have hmm:m'=m:=by
     rcases hm with h | h
     · rw [h] at hk;simp at hk
     omega
   subst hmm
   refine zaa zb3 ?_
   refine zk0 zhr (znI hB2) hxW (Ext.refl w2) fun v37 h37=>?_
   refine zad u90 zdu h37 hk fun b o hA3=>?_
   refine zac zdu hA3 hxW fun v40 h40=>?_
   refine (ih m' rfl h40 hxW hr2 hn2 hF2 (hks _ (List.getElem_mem hk)) (hlen k hk)).mono ?_
   rintro r w4 ⟨hc4,F4,hr4,hn4,hs4⟩
   refine zaf (by omega) ?_
   refine ⟨mm-1,by omega,k+1,by omega,r,rfl,?_⟩
   refine ⟨?_,F4,by rw [zjs _ _ hk];exact hr4,hn4,fun b hb=>?_⟩
   · refine ⟨hc4.os.trans hc2.os,hc4.tape.trans hc2.tape,hc4.output.trans hc2.output,Nat.le_trans hc2.size hc4.size,fun b hb hbF=>?_⟩
     have hb2:b<w2.heap.size:=Nat.lt_of_lt_of_le hb hc2.size
     have hbF2:b∉F2:=fun hm=>by
       rcases hs2 b hm with h | h
       · exact hbF h
       omega
     rw [hc4.block b hb2 hbF2,hc2.block b hb hbF]
   rcases hs4 b hb with h | h
   · exact hs2 b h
   have:=hc2.size;exact .inr (by omega)
 rw [List.take_of_length_le (by omega),←he] at hr2
 refine ⟨(Ext.chg F hx1).trans hc2,F2,hr2,hn2,fun b hb=>?_⟩
 rcases hs2 b hb with h | h
 · exact .inl h
 exact .inr (Nat.le_trans hx1.size h)
theorem zik:∀ n,zvH n
  | n=>zkg fun m hm=>zik m
termination_by n=>n
decreasing_by omega
def zbT (t:DTerm):List ByteArray:=if zbD 6 t=true then readsT 6 t [] else []
theorem zr0 {α:Type} [Rep α] (e:TypeId) (w:World):RowF (α:=α) [] e w (.slice none 0 0) []:=⟨[],[],⟨by simp,.inl ⟨rfl,rfl⟩⟩,⟨rfl,rfl⟩,rfl,Wr.nil _⟩
theorem zd1 {w W:World} {v:Value} {t:DTerm} (h:Is W v t) (e:Ext W w):CALL Tryz.prog 142 [v] w fun r w'=>Ext w w'∧Is w' r (zbT t):=by
 refine F142_call ?_
 unfold F142
 refine zaD zdu rfl h e fun w1 hx1 hA hV=>?_
 refine zbC hV (Ext.refl w1) ?_
 refine (zez h (e.trans hx1)).mono ?_
 rintro _ w2 ⟨hx2,rfl⟩
 refine zaV ?_
 refine zbw (fun c=>?_) (fun c=>?_)
 · refine ⟨hx1.trans hx2,?_⟩
   unfold zbT
   rw [if_neg (by simpa using c)]
   exact zsZ rfl
 have c:zbD 6 t=true:=by simpa using c
 refine zbC hV hx2 ?_
 refine (zij 6 h ((e.trans hx1).trans hx2) (zr0 _ _) List.nodup_nil (by simp) c (by decide)).mono ?_
 rintro r w3 ⟨hc,F',hr,hn,hs⟩
 refine ⟨(hx1.trans hx2).trans (Chg.ext hc),?_⟩
 unfold zbT
 rw [if_pos c]
 exact hr.own.is
theorem zd2 {w W:World} {v:Value} {t:DTerm} (h:Is W v t) (e:Ext W w):CALL Tryz.prog 69 [v] w fun r w'=>Ext w w'∧Is w' r (zbT t):=by
 refine F69_call ?_
 unfold F69
 refine zaD zdu rfl h e fun w1 hx1 hA hV=>?_
 refine zbC hV (Ext.refl w1) ?_
 refine (zeA h (e.trans hx1)).mono ?_
 rintro _ w2 ⟨hx2,rfl⟩
 refine zaV ?_
 refine zbw (fun c=>?_) (fun c=>?_)
 · refine zgf (α:=ByteArray) u22 ty9 fun a w3 hx3 hr3=>?_
   refine ⟨(hx1.trans hx2).trans hx3,?_⟩
   unfold zbT
   rw [if_neg (by simpa using c)]
   exact hr3.is
 have c:zbD 6 t=true:=by simpa using c
 refine zbC hV hx2 ?_
 refine zgf (α:=ByteArray) u22 ty9 fun a w3 hx3 hr3=>?_
 obtain ⟨F,hr,hn,hl⟩:=hr3
 have hx13:=(hx1.trans hx2)
 refine (zik 6 h ((e.trans hx13).trans hx3) hr hn (fun b hb=>Nat.le_trans (e.trans hx13).size (hl b hb)) c (by decide)).mono ?_
 rintro r w4 ⟨hc,F',hr',hn',hs'⟩
 refine ⟨(hx13.trans hx3).chg_trans hc (fun b hb=>Nat.le_trans hx13.size (hl b hb)),?_⟩
 unfold zbT
 rw [if_pos c]
 exact hr'.own.is
def F17 (a0:Value) (w:World) (R:VW):Prop:=
 rN 22 3 a0 w fun x6=>
 oP (Instr.makeSlice 22 x6 x6) w fun x7 w=>
 LOOPI [4] [(iV 0)] w fun u3 w next3=>
 rN 22 3 a0 w fun x10=>
 rC (u3 4) x10 w fun x11=>
 BR x11
 (rX 22 a0 (u3 4) w fun x18=>
 rL 9 x18 w fun x19=>
 rX 22 x7 (u3 4) w fun x20=>
 oS 9 x20 x19 w fun w=>
 rA (u3 4) (iV 1) w fun x13=>
 next3 [x13] w)
 (R x7 w)
def cfg17:Cfg:=⟨extL,[],[(3,2096912,[4])],[],[],[],[]⟩
theorem F17_call {a0:Value} {w:World} {R:VW} (h:F17 a0 w R):cL 17 [a0] w R:=co (g:=cfg17) Tryz.func17 (by kernel_rfl) (by kernel_rfl) (by kernel_rfl) h
def F136 (a0:Value) (w:World) (R:VW):Prop:=
 rN 70 3 a0 w fun x6=>
 oP (Instr.makeSlice 90 x6 x6) w fun x7 w=>
 LOOPI [4] [(iV 0)] w fun u3 w next3=>
 rN 70 3 a0 w fun x10=>
 rC (u3 4) x10 w fun x11=>
 BR x11
 (rX 70 a0 (u3 4) w fun x18=>
 rL 72 x18 w fun x19=>
 cL 82 [x19] w fun x20 w=>
 rX 90 x7 (u3 4) w fun x21=>
 oS 92 x21 x20 w fun w=>
 rA (u3 4) (iV 1) w fun x13=>
 next3 [x13] w)
 (R x7 w)
def cfg136:Cfg:=⟨extL,[],[(3,4194064,[4])],[],[],[],[]⟩
theorem F136_call {a0:Value} {w:World} {R:VW} (h:F136 a0 w R):cL 136 [a0] w R:=co (g:=cfg136) Tryz.func136 (by kernel_rfl) (by kernel_rfl) (by kernel_rfl) h
def F19 (a0:Value) (w:World) (R:VW):Prop:=
 rN 24 3 a0 w fun x6=>
 oP (Instr.makeSlice 29 x6 x6) w fun x7 w=>
 LOOPI [4] [(iV 0)] w fun u3 w next3=>
 rN 24 3 a0 w fun x10=>
 rC (u3 4) x10 w fun x11=>
 BR x11
 (rX 24 a0 (u3 4) w fun x18=>
 rL 74 x18 w fun x19=>
 cL 43 [x19] w fun x20 w=>
 rX 29 x7 (u3 4) w fun x21=>
 oS 94 x21 x20 w fun w=>
 rA (u3 4) (iV 1) w fun x13=>
 next3 [x13] w)
 (R x7 w)
def cfg19:Cfg:=⟨extL,[],[(3,4194064,[4])],[],[],[],[]⟩
theorem F19_call {a0:Value} {w:World} {R:VW} (h:F19 a0 w R):cL 19 [a0] w R:=co (g:=cfg19) Tryz.func19 (by kernel_rfl) (by kernel_rfl) (by kernel_rfl) h
def zuA (l:List ByteArray):Nat:=l.length+sm ByteArray.size l
mutual
def wT:DTerm→Nat
  | .mk _ _ s ks=>s.size+wTs ks
def wTs:List DTerm→Nat
  | []=>0
  | t :: r=>1+wT t+wTs r
end
theorem ztc (l:List DTerm):wTs l=l.length+sm wT l:=by
 induction l with
 | nil=>simp [wTs,sm]
 | cons t l ih=>rw [wTs,ih];simp [sm];omega
theorem zu5 (t:DTerm):wT t=t.name.size+wTs t.kids:=by cases t;rw [wT];rfl
def zu6 (l:List DIns):Nat:=l.length+sm (fun i=>wT i.term) l
def zmE (c:DCode):Nat:=zuA c.globals+zuA c.locks+zuA c.procs+c.entry.length+zu6 c.ins
def F9 (a0 a1:Value) (w:World) (R:VW):Prop:=
 rN 22 3 a0 w fun x8=>
 rB .sub 3 T0 T0 a1 x8 w fun x9=>
 rB .lss 3 T0 U0 x9 (iV 0) w fun x11=>
 BR x11
 (R (iV (-1)) w)
 (LOOPI [1,5] [x9,(iV 0)] w fun u5 w next5=>
 rN 22 3 a0 w fun x14=>
 rC (u5 5) x14 w fun x15=>
 BR x15
 (rX 22 a0 (u5 5) w fun x21=>
 rL 9 x21 w fun x22=>
 rN 9 3 x22 w fun x23=>
 rB .sub 3 T0 T0 (u5 1) x23 w fun x24=>
 rB .lss 3 T0 U0 x24 (iV 0) w fun x26=>
 BR x26
 (R (iV (-1)) w)
 (rA (u5 5) (iV 1) w fun x17=>
 next5 [x24,x17] w))
 (R (u5 1) w))
def cfg9:Cfg:=⟨extL,[],[(5,134213682,[1,5])],[],[],[],[]⟩
theorem F9_call {a0 a1:Value} {w:World} {R:VW} (h:F9 a0 a1 w R):cL 9 [a0,a1] w R:=co (g:=cfg9) Tryz.func9 (by kernel_rfl) (by kernel_rfl) (by kernel_rfl) h
theorem ze3 {w:World} {v0:Value} {W0:World} {l:(List ByteArray)} {left:Int}  (h0:Is W0 v0 l) (e0:Ext W0 w) (hl0:-1≤left) (hl1:left≤1048576) :
   CALL Tryz.prog 9 [v0,.int .i64 left] w fun r w'=>Ext w w'∧(∃ n:Int,r=.int .i64 n∧-1≤n∧n≤left∧(0≤n→n+zuA l≤left)):=by
 refine F9_call ?_
 unfold F9
 have hl:=zam h0
 have hln8:=zam h0
 refine zag u22 h0 ?_
 refine zbf (by unfold I64;omega) ?_
 refine zah ?_
 refine br (fun c1=>?_) (fun c1=>?_)
 · refine ⟨Ext.refl w,?_⟩
   exact ⟨-1,rfl,by omega,by omega,by omega⟩
 refine zaq (l.length) (fun k us w'=>∃ q:Int,us=[.int .i64 q,.int .i64 (k:Int)]∧Ext w w'∧(0≤q∧q+l.length+sm ByteArray.size (l.take k)=left)) (0) (by omega) ⟨left-l.length,by simp,Ext.refl w,by omega,by simp [sm]⟩ ?_
 rintro k m5 uu5 w1_ hk5 ⟨q,hu,hx1_,hq0,hq1⟩
 obtain ⟨hu0,hu1⟩:=zb1 hu
 try rw [hu0]
 try rw [hu1]
 try clear hu0 hu1
 have hln14:=zam h0
 refine zag u22 h0 ?_
 refine zah ?_
 refine br (fun c2=>?_) (fun c2=>?_)
 · refine zad u22 ty9 h0 (by omega) fun b21 o21 h21=>?_
   refine zaH ty9 h21 (e0.trans hx1_) fun hS22=>?_
   refine zeu u9 ?_
   rw [zan] at hS22
   refine zbf (by unfold I64;omega) ?_
   refine zah ?_
   refine br (fun c3=>?_) (fun c3=>?_)
   · refine ⟨hx1_,?_⟩
     exact ⟨-1,rfl,by omega,by omega,by omega⟩
   refine zaf (by omega) ?_
   refine ⟨m5-1,by omega,k+1,by omega,_,rfl,hx1_,?_⟩
   refine ⟨by omega,?_⟩
   rw [zmx _ (by omega)]
   omega
 refine ⟨hx1_,?_⟩
 rw [List.take_of_length_le (by omega)] at hq1
 exact ⟨q,rfl,by omega,by omega,fun _=>by unfold zuA;omega⟩
def ztd (t:DTerm):Prop:=∀ {w W:World} {v:Value} {left:Int},Is W v t→Ext W w→-1≤left→left≤1048576 →
 CALL Tryz.prog 63 [v,.int .i64 left] w fun r w'=>Ext w w'∧∃ n:Int,r=.int .i64 n∧-1≤n∧n≤left∧(0≤n→n+wT t≤left)
def ztT (t:List DTerm):Prop:=∀ {w W:World} {v:Value} {left:Int},Is W v t→Ext W w→-1≤left→left≤1048576 →
 CALL Tryz.prog 116 [v,.int .i64 left] w fun r w'=>Ext w w'∧∃ n:Int,r=.int .i64 n∧-1≤n∧n≤left∧(0≤n→n+wTs t≤left)
def F116 (a0 a1:Value) (w:World) (R:VW):Prop:=
 rN 70 3 a0 w fun x8=>
 rB .sub 3 T0 T0 a1 x8 w fun x9=>
 rB .lss 3 T0 U0 x9 (iV 0) w fun x11=>
 BR x11
 (R (iV (-1)) w)
 (LOOPI [1,5] [x9,(iV 0)] w fun u5 w next5=>
 rN 70 3 a0 w fun x14=>
 rC (u5 5) x14 w fun x15=>
 BR x15
 (rX 70 a0 (u5 5) w fun x20=>
 rL 72 x20 w fun x21=>
 cL 63 [x21,(u5 1)] w fun x23 w=>
 rB .lss 3 T0 U0 x23 (iV 0) w fun x25=>
 BR x25
 (R (iV (-1)) w)
 (rA (u5 5) (iV 1) w fun x17=>
 next5 [x23,x17] w))
 (R (u5 1) w))
def cfg116:Cfg:=⟨extL,[],[(5,67104818,[1,5])],[],[],[],[]⟩
theorem F116_call {a0 a1:Value} {w:World} {R:VW} (h:F116 a0 a1 w R):cL 116 [a0,a1] w R:=co (g:=cfg116) Tryz.func116 (by kernel_rfl) (by kernel_rfl) (by kernel_rfl) h
theorem zlq {w:World} {v0:Value} {W0:World} {l:(List DTerm)} {left:Int}  (h0:Is W0 v0 l) (e0:Ext W0 w) (ih:∀ t∈l,ztd t) (hl0:-1≤left) (hl1:left≤1048576) :
   CALL Tryz.prog 116 [v0,.int .i64 left] w fun r w'=>Ext w w'∧(∃ n:Int,r=.int .i64 n∧-1≤n∧n≤left∧(0≤n→n+wTs l≤left)):=by
 refine F116_call ?_
 unfold F116
 have hl:=zam h0
 have hln8:=zam h0
 refine zag u70 h0 ?_
 refine zbf (by unfold I64;omega) ?_
 refine zah ?_
 refine br (fun c1=>?_) (fun c1=>?_)
 · refine ⟨Ext.refl w,?_⟩
   exact ⟨-1,rfl,by omega,by omega,by omega⟩
 refine zaq (l.length) (fun k us w'=>∃ q:Int,us=[.int .i64 q,.int .i64 (k:Int)]∧Ext w w'∧(0≤q∧q+l.length+sm wT (l.take k)≤left)) (0) (by omega) ⟨left-l.length,by simp,Ext.refl w,by omega,by simp [sm]⟩ ?_
 rintro k m5 uu5 w1_ hk5 ⟨q,hu,hx1_,hq0,hq1⟩
 obtain ⟨hu0,hu1⟩:=zb1 hu
 try rw [hu0]
 try rw [hu1]
 try clear hu0 hu1
 have hln14:=zam h0
 refine zag u70 h0 ?_
 refine zah ?_
 refine br (fun c2=>?_) (fun c2=>?_)
 · refine zad u70 zs5 h0 (by omega) fun b20 o20 h20=>?_
   refine zac zs5 h20 (e0.trans hx1_) fun v21 h21=>?_
   refine (ih _ (List.getElem_mem _) h21 (e0.trans hx1_) (by omega) (by omega)).mono ?_
   rintro _ w2_ ⟨hx2_,n23,rfl,hn23⟩
   refine zah ?_
   refine br (fun c3=>?_) (fun c3=>?_)
   · refine ⟨(hx1_.trans hx2_),?_⟩
     exact ⟨-1,rfl,by omega,by omega,by omega⟩
   refine zaf (by omega) ?_
   refine ⟨m5-1,by omega,k+1,by omega,_,rfl,(hx1_.trans hx2_),?_⟩
   refine ⟨by omega,?_⟩
   rw [zmx _ (by omega)]
   have:=hn23.2.2 (by omega)
   omega
 refine ⟨hx1_,?_⟩
 rw [List.take_of_length_le (by omega)] at hq1
 exact ⟨q,rfl,by omega,by omega,fun _=>by rw [ztc];omega⟩
def F63 (a0 a1:Value) (w:World) (R:VW):Prop:=
 oP (Instr.box 72 a0) w fun x2 w=>
 rF 72 x2 2 w fun x6=>
 rL 9 x6 w fun x7=>
 rN 9 3 x7 w fun x8=>
 rB .sub 3 T0 T0 a1 x8 w fun x9=>
 rB .lss 3 T0 U0 x9 (iV 0) w fun x11=>
 BR x11
 (R (iV (-1)) w)
 (rF 72 x2 3 w fun x12=>
 rL 70 x12 w fun x13=>
 cL 116 [x13,x9] w fun x15 w=>
 rB .lss 3 T0 U0 x15 (iV 0) w fun x17=>
 BR x17
 (R (iV (-1)) w)
 (R x15 w))
def cfg63:Cfg:=⟨extL,[],[],[],[],[],[]⟩
theorem F63_call {a0 a1:Value} {w:World} {R:VW} (h:F63 a0 a1 w R):cL 63 [a0,a1] w R:=co (g:=cfg63) Tryz.func63 (by kernel_rfl) (by kernel_rfl) (by kernel_rfl) h
theorem zmF {w:World} {v0:Value} {W0:World} {t:DTerm} {left:Int}  (h0:Is W0 v0 t) (e0:Ext W0 w) (ih:ztT t.kids) (hl0:-1≤left) (hl1:left≤1048576) :
   CALL Tryz.prog 63 [v0,.int .i64 left] w fun r w'=>Ext w w'∧(∃ n:Int,r=.int .i64 n∧-1≤n∧n≤left∧(0≤n→n+wT t≤left)):=by
 refine F63_call ?_
 unfold F63
 refine zaD zs5 rfl h0 e0 fun w1_ hx1_ hA2 hV2=>?_
 refine zaa zs6 ?_
 refine zaH ty9 (zbc hA2) (Ext.refl w1_) fun hS7=>?_
 refine zeu u9 ?_
 rw [zan] at hS7
 refine zbf (by unfold I64;omega) ?_
 refine zah ?_
 refine br (fun c1=>?_) (fun c1=>?_)
 · refine ⟨hx1_,?_⟩
   exact ⟨-1,rfl,by omega,by omega,by omega⟩
 refine zaa zs7 ?_
 refine zac zvR (zaN hA2) (Ext.refl w1_) fun v13 h13=>?_
 refine (ih h13 (Ext.refl w1_) (by omega) (by omega)).mono ?_
 rintro _ w2_ ⟨hx2_,n15,rfl,hn15⟩
 refine zah ?_
 refine br (fun c2=>?_) (fun c2=>?_)
 · refine ⟨(hx1_.trans hx2_),?_⟩
   exact ⟨-1,rfl,by omega,by omega,by omega⟩
 refine ⟨(hx1_.trans hx2_),?_⟩
 refine ⟨n15,rfl,by omega,by omega,fun h=>?_⟩
 have:=hn15.2.2 (by omega)
 rw [zu5];omega
theorem zp2 (t:DTerm):ztd t:=DTerm.ind (fun t ih {w W v left} h e h0 h1=>zmF h e (fun {w W v left} h e h0 h1=>zlq h e ih h0 h1) h0 h1) t
def F31 (a0 a1:Value) (w:World) (R:VW):Prop:=
 oP (Instr.box 74 a0) w fun x2 w=>
 rF 74 x2 2 w fun x5=>
 rL 72 x5 w fun x6=>
 cL 63 [x6,a1] w fun x8 w=>
 rB .lss 3 T0 U0 x8 (iV 0) w fun x10=>
 BR x10
 (R (iV (-1)) w)
 (R x8 w)
def cfg31:Cfg:=⟨extL,[],[],[],[],[],[]⟩
theorem F31_call {a0 a1:Value} {w:World} {R:VW} (h:F31 a0 a1 w R):cL 31 [a0,a1] w R:=co (g:=cfg31) Tryz.func31 (by kernel_rfl) (by kernel_rfl) (by kernel_rfl) h
theorem zr1 {w:World} {v0:Value} {W0:World} {i:DIns} {left:Int}  (h0:Is W0 v0 i) (e0:Ext W0 w) (hl0:-1≤left) (hl1:left≤1048576) :
   CALL Tryz.prog 31 [v0,.int .i64 left] w fun r w'=>Ext w w'∧(∃ n:Int,r=.int .i64 n∧-1≤n∧n≤left∧(0≤n→n+wT i.term≤left)):=by
 refine F31_call ?_
 unfold F31
 refine zaD zux rfl h0 e0 fun w1_ hx1_ hA2 hV2=>?_
 refine zaa zs8 ?_
 refine zac zs5 (zbu hA2) (Ext.refl w1_) fun v6 h6=>?_
 refine ((zp2 _) h6 (Ext.refl w1_) (by omega) (by omega)).mono ?_
 rintro _ w2_ ⟨hx2_,n8,rfl,hn8⟩
 refine zah ?_
 refine br (fun c1=>?_) (fun c1=>?_)
 · refine ⟨(hx1_.trans hx2_),?_⟩
   exact ⟨-1,rfl,by omega,by omega,by omega⟩
 refine ⟨(hx1_.trans hx2_),?_⟩
 exact ⟨n8,rfl,by omega,by omega,hn8.2.2⟩
def F11 (a0 a1:Value) (w:World) (R:VW):Prop:=
 rN 24 3 a0 w fun x8=>
 rB .sub 3 T0 T0 a1 x8 w fun x9=>
 rB .lss 3 T0 U0 x9 (iV 0) w fun x11=>
 BR x11
 (R (iV (-1)) w)
 (LOOPI [1,5] [x9,(iV 0)] w fun u5 w next5=>
 rN 24 3 a0 w fun x14=>
 rC (u5 5) x14 w fun x15=>
 BR x15
 (rX 24 a0 (u5 5) w fun x20=>
 rL 74 x20 w fun x21=>
 cL 31 [x21,(u5 1)] w fun x23 w=>
 rB .lss 3 T0 U0 x23 (iV 0) w fun x25=>
 BR x25
 (R (iV (-1)) w)
 (rA (u5 5) (iV 1) w fun x17=>
 next5 [x23,x17] w))
 (R (u5 1) w))
def cfg11:Cfg:=⟨extL,[],[(5,67104818,[1,5])],[],[],[],[]⟩
theorem F11_call {a0 a1:Value} {w:World} {R:VW} (h:F11 a0 a1 w R):cL 11 [a0,a1] w R:=co (g:=cfg11) Tryz.func11 (by kernel_rfl) (by kernel_rfl) (by kernel_rfl) h
theorem zp3 {w:World} {v0:Value} {W0:World} {l:(List DIns)} {left:Int}  (h0:Is W0 v0 l) (e0:Ext W0 w) (hl0:-1≤left) (hl1:left≤1048576) :
   CALL Tryz.prog 11 [v0,.int .i64 left] w fun r w'=>Ext w w'∧(∃ n:Int,r=.int .i64 n∧-1≤n∧n≤left∧(0≤n→n+zu6 l≤left)):=by
 refine F11_call ?_
 unfold F11
 have hl:=zam h0
 have hln8:=zam h0
 refine zag u24 h0 ?_
 refine zbf (by unfold I64;omega) ?_
 refine zah ?_
 refine br (fun c1=>?_) (fun c1=>?_)
 · refine ⟨Ext.refl w,?_⟩
   exact ⟨-1,rfl,by omega,by omega,by omega⟩
 refine zaq (l.length) (fun k us w'=>∃ q:Int,us=[.int .i64 q,.int .i64 (k:Int)]∧Ext w w'∧(0≤q∧q+l.length+sm (fun i=>wT i.term) (l.take k)≤left)) (0) (by omega) ⟨left-l.length,by simp,Ext.refl w,by omega,by simp [sm]⟩ ?_
 rintro k m5 uu5 w1_ hk5 ⟨q,hu,hx1_,hq0,hq1⟩
 obtain ⟨hu0,hu1⟩:=zb1 hu
 try rw [hu0]
 try rw [hu1]
 try clear hu0 hu1
 have hln14:=zam h0
 refine zag u24 h0 ?_
 refine zah ?_
 refine br (fun c2=>?_) (fun c2=>?_)
 · refine zad u24 zux h0 (by omega) fun b20 o20 h20=>?_
   refine zac zux h20 (e0.trans hx1_) fun v21 h21=>?_
   refine (zr1 h21 (e0.trans hx1_) (by omega) (by omega)).mono ?_
   rintro _ w2_ ⟨hx2_,n23,rfl,hn23⟩
   refine zah ?_
   refine br (fun c3=>?_) (fun c3=>?_)
   · refine ⟨(hx1_.trans hx2_),?_⟩
     exact ⟨-1,rfl,by omega,by omega,by omega⟩
   refine zaf (by omega) ?_
   refine ⟨m5-1,by omega,k+1,by omega,_,rfl,(hx1_.trans hx2_),?_⟩
   refine ⟨by omega,?_⟩
   rw [zmx _ (by omega)]
   have:=hn23.2.2 (by omega)
   omega
 refine ⟨hx1_,?_⟩
 rw [List.take_of_length_le (by omega)] at hq1
 exact ⟨q,rfl,by omega,by omega,fun _=>by unfold zu6;omega⟩
def F4 (a0 a1:Value) (w:World) (R:VW):Prop:=
 oP (Instr.box 26 a0) w fun x2 w=>
 rF 26 x2 0 w fun x5=>
 rL 22 x5 w fun x6=>
 cL 9 [x6,a1] w fun x8 w=>
 rB .lss 3 T0 U0 x8 (iV 0) w fun x10=>
 BR x10
 (R (iV (-1)) w)
 (rF 26 x2 1 w fun x11=>
 rL 22 x11 w fun x12=>
 cL 9 [x12,x8] w fun x14 w=>
 rB .lss 3 T0 U0 x14 (iV 0) w fun x16=>
 BR x16
 (R (iV (-1)) w)
 (rF 26 x2 2 w fun x17=>
 rL 22 x17 w fun x18=>
 cL 9 [x18,x14] w fun x20 w=>
 rB .lss 3 T0 U0 x20 (iV 0) w fun x22=>
 BR x22
 (R (iV (-1)) w)
 (rF 26 x2 3 w fun x23=>
 rL 23 x23 w fun x24=>
 cL 10 [x24,x20] w fun x26 w=>
 rB .lss 3 T0 U0 x26 (iV 0) w fun x28=>
 BR x28
 (R (iV (-1)) w)
 (rF 26 x2 4 w fun x29=>
 rL 24 x29 w fun x30=>
 cL 11 [x30,x26] w fun x32 w=>
 rB .lss 3 T0 U0 x32 (iV 0) w fun x34=>
 BR x34
 (R (iV (-1)) w)
 (R x32 w)))))
def cfg4:Cfg:=⟨extL,[],[],[],[],[],[]⟩
theorem F4_call {a0 a1:Value} {w:World} {R:VW} (h:F4 a0 a1 w R):cL 4 [a0,a1] w R:=co (g:=cfg4) Tryz.func4 (by kernel_rfl) (by kernel_rfl) (by kernel_rfl) h
theorem zp4 {w:World} {v0:Value} {W0:World} {c:DCode} {left:Int}  (h0:Is W0 v0 c) (e0:Ext W0 w) (hl0:-1≤left) (hl1:left≤1048576) :
   CALL Tryz.prog 4 [v0,.int .i64 left] w fun r w'=>Ext w w'∧(∃ n:Int,r=.int .i64 n∧-1≤n∧n≤left∧(0≤n→n+zmE c≤left)):=by
 refine F4_call ?_
 unfold F4
 refine zaD zvz rfl h0 e0 fun w1_ hx1_ hA2 hV2=>?_
 refine zaa zs0 ?_
 refine zac zbP (zaZ hA2) (Ext.refl w1_) fun v6 h6=>?_
 refine (ze3 h6 (Ext.refl w1_) (by omega) (by omega)).mono ?_
 rintro _ w2_ ⟨hx2_,n8,rfl,hn8⟩
 refine zah ?_
 refine br (fun c1=>?_) (fun c1=>?_)
 · refine ⟨(hx1_.trans hx2_),?_⟩
   exact ⟨-1,rfl,by omega,by omega,by omega⟩
 refine zaa zs1 ?_
 refine zac zbP (zaR hA2) hx2_ fun v12 h12=>?_
 refine (ze3 h12 hx2_ (by omega) (by omega)).mono ?_
 rintro _ w3_ ⟨hx3_,n14,rfl,hn14⟩
 refine zah ?_
 refine br (fun c2=>?_) (fun c2=>?_)
 · refine ⟨(hx1_.trans (hx2_.trans hx3_)),?_⟩
   exact ⟨-1,rfl,by omega,by omega,by omega⟩
 refine zaa zs2 ?_
 refine zac zbP (zar hA2) (hx2_.trans hx3_) fun v18 h18=>?_
 refine (ze3 h18 (hx2_.trans hx3_) (by omega) (by omega)).mono ?_
 rintro _ w4_ ⟨hx4_,n20,rfl,hn20⟩
 refine zah ?_
 refine br (fun c3=>?_) (fun c3=>?_)
 · refine ⟨(hx1_.trans (hx2_.trans (hx3_.trans hx4_))),?_⟩
   exact ⟨-1,rfl,by omega,by omega,by omega⟩
 refine zaa zs3 ?_
 refine zac zbE (zap hA2) (hx2_.trans (hx3_.trans hx4_)) fun v24 h24=>?_
 refine (zpP h24 (hx2_.trans (hx3_.trans hx4_)) (by omega) (by omega)).mono ?_
 rintro _ w5_ ⟨hx5_,n26,rfl,hn26⟩
 refine zah ?_
 refine br (fun c4=>?_) (fun c4=>?_)
 · refine ⟨(hx1_.trans (hx2_.trans (hx3_.trans (hx4_.trans hx5_)))),?_⟩
   exact ⟨-1,rfl,by omega,by omega,by omega⟩
 refine zaa zs4 ?_
 refine zac zvO (zai hA2) (hx2_.trans (hx3_.trans (hx4_.trans hx5_))) fun v30 h30=>?_
 refine (zp3 h30 (hx2_.trans (hx3_.trans (hx4_.trans hx5_))) (by omega) (by omega)).mono ?_
 rintro _ w6_ ⟨hx6_,n32,rfl,hn32⟩
 refine zah ?_
 refine br (fun c5=>?_) (fun c5=>?_)
 · refine ⟨(hx1_.trans (hx2_.trans (hx3_.trans (hx4_.trans (hx5_.trans hx6_))))),?_⟩
   exact ⟨-1,rfl,by omega,by omega,by omega⟩
 refine ⟨(hx1_.trans (hx2_.trans (hx3_.trans (hx4_.trans (hx5_.trans hx6_))))),?_⟩
 refine ⟨n32,rfl,by omega,by omega,fun _=>?_⟩
 have h1:=hn8.2.2 (by omega)
 have h2:=hn14.2.2 (by omega)
 have h3:=hn20.2.2 (by omega)
 have h4:=hn26.2.2 (by omega)
 have h5:=hn32.2.2 (by omega)
 unfold zmE
 omega
def F28 (a0 a1:Value) (w:World) (R:VW):Prop:=
 rN 22 3 a0 w fun x7=>
 rN 22 3 a1 w fun x9=>
 rB .neq 3 T0 T0 x7 x9 w fun x10=>
 BR x10
 (R (Value.bool false) w)
 (LOOPI [5] [(iV 0)] w fun u4 w next4=>
 rN 22 3 a0 w fun x13=>
 rC (u4 5) x13 w fun x14=>
 BR x14
 ((fun w=>rX 22 a0 (u4 5) w fun x19=>
 rL 9 x19 w fun x20=>
 rX 22 a1 (u4 5) w fun x23=>
 rL 9 x23 w fun x24=>
 rB .neq 9 T0 T0 x20 x24 w fun x25=>
 BR x25
 (R (Value.bool false) w)
 (rA (u4 5) (iV 1) w fun x16=>
 next4 [x16] w)) (World.drew1 w))
 (R (Value.bool true) w))
def cfg28:Cfg:=⟨extL,[],[(4,67106864,[5])],[(6,[0,1,2,3,4,5,6,7,8],0)],[],[],[]⟩
theorem F28_call {a0 a1:Value} {w:World} {R:VW} (h:F28 a0 a1 w R):cL 28 [a0,a1] w R:=co (g:=cfg28) Tryz.func28 (by kernel_rfl) (by kernel_rfl) (by kernel_rfl) h
theorem ze4 {w:World} {v0:Value} {W0:World} {l1:(List ByteArray)} {v1:Value} {W1:World} {l2:(List ByteArray)}  (h0:Is W0 v0 l1) (e0:Ext W0 w) (h1:Is W1 v1 l2) (e1:Ext W1 w)  :
   CALL Tryz.prog 28 [v0,v1] w fun r w'=>Ext w w'∧(r=.bool (decide (l1=l2))):=by
 refine F28_call ?_
 unfold F28
 have hl1:=zam h0
 have hln7:=zam h0
 refine zag u22 h0 ?_
 have hln9:=zam h1
 refine zag u22 h1 ?_
 refine zaI ?_
 refine br (fun c1=>?_) (fun c1=>?_)
 · refine ⟨Ext.refl w,?_⟩
   have:l1≠l2:=fun e=>c1 (by rw [e])
   simp [this]
 refine zaq (l1.length) (fun k us w'=>us=[.int .i64 (k:Int)]∧Ext w w'∧(l1.take k=l2.take k)) (0) (by omega) ⟨by simp,Ext.refl w,by simp⟩ ?_
 rintro k m4 uu4 w1_ hk4 ⟨hu,hx1_,hinv⟩
 simp only [List.map_cons,List.map_nil,List.cons.injEq,and_true] at hu
 try rw [hu]
 try clear hu
 have hln13:=zam h0
 refine zag u22 h0 ?_
 refine zah ?_
 refine br (fun c2=>?_) (fun c2=>?_)
 · have hx2_:=zak w1_
   refine zad u22 ty9 h0 (by omega) fun b19 o19 h19=>?_
   refine zaH ty9 h19 (e0.trans (hx1_.trans hx2_)) fun hS20=>?_
   refine zad u22 ty9 h1 (by omega) fun b23 o23 h23=>?_
   refine zaH ty9 h23 (e1.trans (hx1_.trans hx2_)) fun hS24=>?_
   refine zgO ?_
   refine br (fun c3=>?_) (fun c3=>?_)
   · refine ⟨(hx1_.trans hx2_),?_⟩
     have:l1≠l2:=fun e=>c3 (by subst e;rfl)
     simp [this]
   refine zaf (by omega) ?_
   refine ⟨m4-1,by omega,k+1,by omega,by simp,(hx1_.trans hx2_),?_⟩
   rw [List.take_succ_eq_append_getElem (by omega),List.take_succ_eq_append_getElem (by omega),hinv,Decidable.not_not.1 c3]
 refine ⟨hx1_,?_⟩
 rw [List.take_of_length_le (by omega),List.take_of_length_le (by omega)] at hinv
 simp [hinv]
def zte (t:DTerm):Prop:=∀ {w W W':World} {v v':Value} {t':DTerm},Is W v t→Ext W w→Is W' v' t'→Ext W' w →
 CALL Tryz.prog 115 [v,v'] w fun r w'=>Ext w w'∧r=.bool (decide (t=t'))
def ztU (t:List DTerm):Prop:=∀ {w W W':World} {v v':Value} {t':List DTerm},Is W v t→Ext W w→Is W' v' t'→Ext W' w →
 CALL Tryz.prog 169 [v,v'] w fun r w'=>Ext w w'∧r=.bool (decide (t=t'))
def F169 (a0 a1:Value) (w:World) (R:VW):Prop:=
 rN 90 3 a0 w fun x7=>
 rN 90 3 a1 w fun x9=>
 rB .neq 3 T0 T0 x7 x9 w fun x10=>
 BR x10
 (R (Value.bool false) w)
 (LOOPI [5] [(iV 0)] w fun u4 w next4=>
 rN 90 3 a0 w fun x13=>
 rC (u4 5) x13 w fun x14=>
 BR x14
 ((fun w=>rX 90 a0 (u4 5) w fun x19=>
 rL 92 x19 w fun x20=>
 rX 90 a1 (u4 5) w fun x23=>
 rL 92 x23 w fun x24=>
 cL 115 [x20,x24] w fun x25 w=>
 rD (Op.unary .not x25) w fun x26=>
 BR x26
 (R (Value.bool false) w)
 (rA (u4 5) (iV 1) w fun x16=>
 next4 [x16] w)) (World.drew1 w))
 (R (Value.bool true) w))
def cfg169:Cfg:=⟨extL,[],[(4,134215728,[5])],[(6,[0,1,2,3,4,5,6,7,8,9],0)],[],[],[]⟩
theorem F169_call {a0 a1:Value} {w:World} {R:VW} (h:F169 a0 a1 w R):cL 169 [a0,a1] w R:=co (g:=cfg169) Tryz.func169 (by kernel_rfl) (by kernel_rfl) (by kernel_rfl) h
theorem zlr {w:World} {v0:Value} {W0:World} {l1:(List DTerm)} {v1:Value} {W1:World} {l2:(List DTerm)}  (h0:Is W0 v0 l1) (e0:Ext W0 w) (h1:Is W1 v1 l2) (e1:Ext W1 w) (ih:∀ t∈l1,zte t) :
   CALL Tryz.prog 169 [v0,v1] w fun r w'=>Ext w w'∧(r=.bool (decide (l1=l2))):=by
 refine F169_call ?_
 unfold F169
 have hl1:=zam h0
 have hln7:=zam h0
 refine zag u90 h0 ?_
 have hln9:=zam h1
 refine zag u90 h1 ?_
 refine zaI ?_
 refine br (fun c1=>?_) (fun c1=>?_)
 · refine ⟨Ext.refl w,?_⟩
   have:l1≠l2:=fun e=>c1 (by rw [e])
   simp [this]
 refine zaq (l1.length) (fun k us w'=>us=[.int .i64 (k:Int)]∧Ext w w'∧(l1.take k=l2.take k)) (0) (by omega) ⟨by simp,Ext.refl w,by simp⟩ ?_
 rintro k m4 uu4 w1_ hk4 ⟨hu,hx1_,hinv⟩
 simp only [List.map_cons,List.map_nil,List.cons.injEq,and_true] at hu
 try rw [hu]
 try clear hu
 have hln13:=zam h0
 refine zag u90 h0 ?_
 refine zah ?_
 refine br (fun c2=>?_) (fun c2=>?_)
 · have hx2_:=zak w1_
   refine zad u90 zdu h0 (by omega) fun b19 o19 h19=>?_
   refine zac zdu h19 (e0.trans (hx1_.trans hx2_)) fun v20 h20=>?_
   refine zad u90 zdu h1 (by omega) fun b23 o23 h23=>?_
   refine zac zdu h23 (e1.trans (hx1_.trans hx2_)) fun v24 h24=>?_
   refine (ih _ (List.getElem_mem _) h20 (e0.trans (hx1_.trans hx2_)) h24 (e1.trans (hx1_.trans hx2_))).mono ?_
   rintro _ w3_ ⟨hx3_,rfl⟩
   refine zaz ?_
   refine br (fun c3=>?_) (fun c3=>?_)
   · refine ⟨(hx1_.trans (hx2_.trans hx3_)),?_⟩
     have:l1≠l2:=fun e=>c3 (by subst e;rfl)
     simp [this]
   refine zaf (by omega) ?_
   refine ⟨m4-1,by omega,k+1,by omega,by simp,(hx1_.trans (hx2_.trans hx3_)),?_⟩
   rw [List.take_succ_eq_append_getElem (by omega),List.take_succ_eq_append_getElem (by omega),hinv,Decidable.not_not.1 c3]
 refine ⟨hx1_,?_⟩
 rw [List.take_of_length_le (by omega),List.take_of_length_le (by omega)] at hinv
 simp [hinv]
def F115 (a0 a1:Value) (w:World) (R:VW):Prop:=
 oP (Instr.box 92 a0) w fun x2 w=>
 oP (Instr.box 92 a1) w fun x3 w=>
 rF 92 x2 0 w fun x5=>
 rL 3 x5 w fun x6=>
 rF 92 x3 0 w fun x7=>
 rL 3 x7 w fun x8=>
 rB .neq 3 T0 T0 x6 x8 w fun x9=>
 BR x9
 (R (Value.bool false) w)
 (rF 92 x2 1 w fun x10=>
 rL 3 x10 w fun x11=>
 rF 92 x3 1 w fun x12=>
 rL 3 x12 w fun x13=>
 rB .neq 3 T0 T0 x11 x13 w fun x14=>
 BR x14
 (R (Value.bool false) w)
 (rF 92 x2 2 w fun x15=>
 rL 9 x15 w fun x16=>
 rF 92 x3 2 w fun x17=>
 rL 9 x17 w fun x18=>
 rB .neq 9 T0 T0 x16 x18 w fun x19=>
 BR x19
 (R (Value.bool false) w)
 (rF 92 x2 3 w fun x20=>
 rL 90 x20 w fun x21=>
 rF 92 x3 3 w fun x22=>
 rL 90 x22 w fun x23=>
 cL 169 [x21,x23] w fun x24 w=>
 rD (Op.unary .not x24) w fun x25=>
 BR x25
 (R (Value.bool false) w)
 (R (Value.bool true) w))))
def cfg115:Cfg:=⟨extL,[],[],[],[],[],[]⟩
theorem F115_call {a0 a1:Value} {w:World} {R:VW} (h:F115 a0 a1 w R):cL 115 [a0,a1] w R:=co (g:=cfg115) Tryz.func115 (by kernel_rfl) (by kernel_rfl) (by kernel_rfl) h
theorem zmG {w:World} {v0:Value} {W0:World} {t1:DTerm} {v1:Value} {W1:World} {t2:DTerm}  (h0:Is W0 v0 t1) (e0:Ext W0 w) (h1:Is W1 v1 t2) (e1:Ext W1 w) (ih:ztU t1.kids) :
   CALL Tryz.prog 115 [v0,v1] w fun r w'=>Ext w w'∧(r=.bool (decide (t1=t2))):=by
 refine F115_call ?_
 unfold F115
 refine zaD zdu rfl h0 e0 fun w1_ hx1_ hA2 hV2=>?_
 refine zaD zdu rfl h1 (e1.trans hx1_) fun w2_ hx2_ hA3 hV3=>?_
 refine zaa zeO ?_
 refine zab ty3 (zbG hA2) hx2_ fun hI6=>?_
 refine zaa zeO ?_
 refine zab ty3 (zbG hA3) (Ext.refl w2_) fun hI8=>?_
 refine zaI ?_
 refine br (fun c1=>?_) (fun c1=>?_)
 · refine ⟨(hx1_.trans hx2_),?_⟩
   have:t1≠t2:=fun e=>c1 (by rw [e])
   simp [this]
 refine zaa zd8 ?_
 refine zab ty3 (zbz hA2) hx2_ fun hI11=>?_
 refine zaa zd8 ?_
 refine zab ty3 (zbz hA3) (Ext.refl w2_) fun hI13=>?_
 refine zaI ?_
 refine br (fun c2=>?_) (fun c2=>?_)
 · refine ⟨(hx1_.trans hx2_),?_⟩
   have:t1≠t2:=fun e=>c2 (by rw [e])
   simp [this]
 refine zaa zdA ?_
 refine zaH ty9 (zbc hA2) hx2_ fun hS16=>?_
 refine zaa zdA ?_
 refine zaH ty9 (zbc hA3) (Ext.refl w2_) fun hS18=>?_
 refine zgO ?_
 refine br (fun c3=>?_) (fun c3=>?_)
 · refine ⟨(hx1_.trans hx2_),?_⟩
   have:t1≠t2:=fun e=>c3 (by rw [e])
   simp [this]
 refine zaa zb3 ?_
 refine zac zhr (zaN hA2) hx2_ fun v21 h21=>?_
 refine zaa zb3 ?_
 refine zac zhr (zaN hA3) (Ext.refl w2_) fun v23 h23=>?_
 refine (ih h21 hx2_ h23 (Ext.refl w2_)).mono ?_
 rintro _ w3_ ⟨hx3_,rfl⟩
 refine zaz ?_
 refine br (fun c4=>?_) (fun c4=>?_)
 · refine ⟨(hx1_.trans (hx2_.trans hx3_)),?_⟩
   have:t1≠t2:=fun e=>c4 (by rw [e])
   simp [this]
 refine ⟨(hx1_.trans (hx2_.trans hx3_)),?_⟩
 have:t1=t2:=DTerm.ext_iff.2 ⟨Decidable.not_not.1 c1,Decidable.not_not.1 c2,Decidable.not_not.1 c3,Decidable.not_not.1 c4⟩
 simp [this]
theorem zp5 (t:DTerm):zte t:=DTerm.ind (fun t ih {_ _ _ _ _ _} h e h' e'=>zmG h e h' e' (fun {_ _ _ _ _ _} h e h' e'=>zlr h e h' e' ih)) t
def F62 (a0 a1:Value) (w:World) (R:VW):Prop:=
 oP (Instr.box 94 a0) w fun x2 w=>
 oP (Instr.box 94 a1) w fun x3 w=>
 rF 94 x2 0 w fun x5=>
 rL 3 x5 w fun x6=>
 rF 94 x3 0 w fun x7=>
 rL 3 x7 w fun x8=>
 rB .neq 3 T0 T0 x6 x8 w fun x9=>
 BR x9
 (R (Value.bool false) w)
 (rF 94 x2 1 w fun x10=>
 rL 3 x10 w fun x11=>
 rF 94 x3 1 w fun x12=>
 rL 3 x12 w fun x13=>
 rB .neq 3 T0 T0 x11 x13 w fun x14=>
 BR x14
 (R (Value.bool false) w)
 (rF 94 x2 2 w fun x15=>
 rL 92 x15 w fun x16=>
 rF 94 x3 2 w fun x17=>
 rL 92 x17 w fun x18=>
 cL 115 [x16,x18] w fun x19 w=>
 rD (Op.unary .not x19) w fun x20=>
 BR x20
 (R (Value.bool false) w)
 (rF 94 x2 3 w fun x21=>
 rL 3 x21 w fun x22=>
 rF 94 x3 3 w fun x23=>
 rL 3 x23 w fun x24=>
 rB .neq 3 T0 T0 x22 x24 w fun x25=>
 BR x25
 (R (Value.bool false) w)
 (R (Value.bool true) w))))
def cfg62:Cfg:=⟨extL,[],[],[],[],[],[]⟩
theorem F62_call {a0 a1:Value} {w:World} {R:VW} (h:F62 a0 a1 w R):cL 62 [a0,a1] w R:=co (g:=cfg62) Tryz.func62 (by kernel_rfl) (by kernel_rfl) (by kernel_rfl) h
theorem zr2 {w:World} {v0:Value} {W0:World} {t1:DIns} {v1:Value} {W1:World} {t2:DIns}  (h0:Is W0 v0 t1) (e0:Ext W0 w) (h1:Is W1 v1 t2) (e1:Ext W1 w)  :
   CALL Tryz.prog 62 [v0,v1] w fun r w'=>Ext w w'∧(r=.bool (decide (t1=t2))):=by
 refine F62_call ?_
 unfold F62
 refine zaD zcb rfl h0 e0 fun w1_ hx1_ hA2 hV2=>?_
 refine zaD zcb rfl h1 (e1.trans hx1_) fun w2_ hx2_ hA3 hV3=>?_
 refine zaa za6 ?_
 refine zab ty3 (zas hA2) hx2_ fun hI6=>?_
 refine zaa za6 ?_
 refine zab ty3 (zas hA3) (Ext.refl w2_) fun hI8=>?_
 refine zaI ?_
 refine br (fun c1=>?_) (fun c1=>?_)
 · refine ⟨(hx1_.trans hx2_),?_⟩
   have:t1≠t2:=fun e=>c1 (by rw [e])
   simp [this]
 refine zaa za7 ?_
 refine zab ty3 (zav hA2) hx2_ fun hI11=>?_
 refine zaa za7 ?_
 refine zab ty3 (zav hA3) (Ext.refl w2_) fun hI13=>?_
 refine zaI ?_
 refine br (fun c2=>?_) (fun c2=>?_)
 · refine ⟨(hx1_.trans hx2_),?_⟩
   have:t1≠t2:=fun e=>c2 (by rw [e])
   simp [this]
 refine zaa zdB ?_
 refine zac zdu (zbu hA2) hx2_ fun v16 h16=>?_
 refine zaa zdB ?_
 refine zac zdu (zbu hA3) (Ext.refl w2_) fun v18 h18=>?_
 refine ((zp5 _) h16 hx2_ h18 (Ext.refl w2_)).mono ?_
 rintro _ w3_ ⟨hx3_,rfl⟩
 refine zaz ?_
 refine br (fun c3=>?_) (fun c3=>?_)
 · refine ⟨(hx1_.trans (hx2_.trans hx3_)),?_⟩
   have:t1≠t2:=fun e=>c3 (by rw [e])
   simp [this]
 refine zaa zdg ?_
 refine zab ty3 (zbv hA2) (hx2_.trans hx3_) fun hI22=>?_
 refine zaa zdg ?_
 refine zab ty3 (zbv hA3) hx3_ fun hI24=>?_
 refine zaI ?_
 refine br (fun c4=>?_) (fun c4=>?_)
 · refine ⟨(hx1_.trans (hx2_.trans hx3_)),?_⟩
   have:t1≠t2:=fun e=>c4 (by rw [e])
   simp [this]
 refine ⟨(hx1_.trans (hx2_.trans hx3_)),?_⟩
 have:t1=t2:=DIns.ext_iff.2 ⟨Decidable.not_not.1 c1,Decidable.not_not.1 c2,Decidable.not_not.1 c3,Decidable.not_not.1 c4⟩
 simp [this]
def F30 (a0 a1:Value) (w:World) (R:VW):Prop:=
 rN 29 3 a0 w fun x7=>
 rN 29 3 a1 w fun x9=>
 rB .neq 3 T0 T0 x7 x9 w fun x10=>
 BR x10
 (R (Value.bool false) w)
 (LOOPI [5] [(iV 0)] w fun u4 w next4=>
 rN 29 3 a0 w fun x13=>
 rC (u4 5) x13 w fun x14=>
 BR x14
 ((fun w=>rX 29 a0 (u4 5) w fun x19=>
 rL 94 x19 w fun x20=>
 rX 29 a1 (u4 5) w fun x23=>
 rL 94 x23 w fun x24=>
 cL 62 [x20,x24] w fun x25 w=>
 rD (Op.unary .not x25) w fun x26=>
 BR x26
 (R (Value.bool false) w)
 (rA (u4 5) (iV 1) w fun x16=>
 next4 [x16] w)) (World.drew1 w))
 (R (Value.bool true) w))
def cfg30:Cfg:=⟨extL,[],[(4,134215728,[5])],[(6,[0,1,2,3,4,5,6,7,8,9],0)],[],[],[]⟩
theorem F30_call {a0 a1:Value} {w:World} {R:VW} (h:F30 a0 a1 w R):cL 30 [a0,a1] w R:=co (g:=cfg30) Tryz.func30 (by kernel_rfl) (by kernel_rfl) (by kernel_rfl) h
theorem zp6 {w:World} {v0:Value} {W0:World} {l1:(List DIns)} {v1:Value} {W1:World} {l2:(List DIns)}  (h0:Is W0 v0 l1) (e0:Ext W0 w) (h1:Is W1 v1 l2) (e1:Ext W1 w)  :
   CALL Tryz.prog 30 [v0,v1] w fun r w'=>Ext w w'∧(r=.bool (decide (l1=l2))):=by
 refine F30_call ?_
 unfold F30
 have hl1:=zam h0
 have hln7:=zam h0
 refine zag u29 h0 ?_
 have hln9:=zam h1
 refine zag u29 h1 ?_
 refine zaI ?_
 refine br (fun c1=>?_) (fun c1=>?_)
 · refine ⟨Ext.refl w,?_⟩
   have:l1≠l2:=fun e=>c1 (by rw [e])
   simp [this]
 refine zaq (l1.length) (fun k us w'=>us=[.int .i64 (k:Int)]∧Ext w w'∧(l1.take k=l2.take k)) (0) (by omega) ⟨by simp,Ext.refl w,by simp⟩ ?_
 rintro k m4 uu4 w1_ hk4 ⟨hu,hx1_,hinv⟩
 simp only [List.map_cons,List.map_nil,List.cons.injEq,and_true] at hu
 try rw [hu]
 try clear hu
 have hln13:=zam h0
 refine zag u29 h0 ?_
 refine zah ?_
 refine br (fun c2=>?_) (fun c2=>?_)
 · have hx2_:=zak w1_
   refine zad u29 zcb h0 (by omega) fun b19 o19 h19=>?_
   refine zac zcb h19 (e0.trans (hx1_.trans hx2_)) fun v20 h20=>?_
   refine zad u29 zcb h1 (by omega) fun b23 o23 h23=>?_
   refine zac zcb h23 (e1.trans (hx1_.trans hx2_)) fun v24 h24=>?_
   refine (zr2 h20 (e0.trans (hx1_.trans hx2_)) h24 (e1.trans (hx1_.trans hx2_))).mono ?_
   rintro _ w3_ ⟨hx3_,rfl⟩
   refine zaz ?_
   refine br (fun c3=>?_) (fun c3=>?_)
   · refine ⟨(hx1_.trans (hx2_.trans hx3_)),?_⟩
     have:l1≠l2:=fun e=>c3 (by subst e;rfl)
     simp [this]
   refine zaf (by omega) ?_
   refine ⟨m4-1,by omega,k+1,by omega,by simp,(hx1_.trans (hx2_.trans hx3_)),?_⟩
   rw [List.take_succ_eq_append_getElem (by omega),List.take_succ_eq_append_getElem (by omega),hinv,Decidable.not_not.1 c3]
 refine ⟨hx1_,?_⟩
 rw [List.take_of_length_le (by omega),List.take_of_length_le (by omega)] at hinv
 simp [hinv]
def F8 (a0 a1:Value) (w:World) (R:VW):Prop:=
 oP (Instr.box 31 a0) w fun x2 w=>
 oP (Instr.box 31 a1) w fun x3 w=>
 rF 31 x2 0 w fun x5=>
 rL 22 x5 w fun x6=>
 rF 31 x3 0 w fun x7=>
 rL 22 x7 w fun x8=>
 cL 28 [x6,x8] w fun x9 w=>
 rD (Op.unary .not x9) w fun x10=>
 BR x10
 (R (Value.bool false) w)
 (rF 31 x2 1 w fun x11=>
 rL 22 x11 w fun x12=>
 rF 31 x3 1 w fun x13=>
 rL 22 x13 w fun x14=>
 cL 28 [x12,x14] w fun x15 w=>
 rD (Op.unary .not x15) w fun x16=>
 BR x16
 (R (Value.bool false) w)
 (rF 31 x2 2 w fun x17=>
 rL 22 x17 w fun x18=>
 rF 31 x3 2 w fun x19=>
 rL 22 x19 w fun x20=>
 cL 28 [x18,x20] w fun x21 w=>
 rD (Op.unary .not x21) w fun x22=>
 BR x22
 (R (Value.bool false) w)
 (rF 31 x2 3 w fun x23=>
 rL 23 x23 w fun x24=>
 rF 31 x3 3 w fun x25=>
 rL 23 x25 w fun x26=>
 cL 29 [x24,x26] w fun x27 w=>
 rD (Op.unary .not x27) w fun x28=>
 BR x28
 (R (Value.bool false) w)
 (rF 31 x2 4 w fun x29=>
 rL 29 x29 w fun x30=>
 rF 31 x3 4 w fun x31=>
 rL 29 x31 w fun x32=>
 cL 30 [x30,x32] w fun x33 w=>
 rD (Op.unary .not x33) w fun x34=>
 BR x34
 (R (Value.bool false) w)
 (R (Value.bool true) w)))))
def cfg8:Cfg:=⟨extL,[],[],[],[],[],[]⟩
theorem F8_call {a0 a1:Value} {w:World} {R:VW} (h:F8 a0 a1 w R):cL 8 [a0,a1] w R:=co (g:=cfg8) Tryz.func8 (by kernel_rfl) (by kernel_rfl) (by kernel_rfl) h
theorem zp7 {w:World} {v0:Value} {W0:World} {t1:DCode} {v1:Value} {W1:World} {t2:DCode}  (h0:Is W0 v0 t1) (e0:Ext W0 w) (h1:Is W1 v1 t2) (e1:Ext W1 w)  :
   CALL Tryz.prog 8 [v0,v1] w fun r w'=>Ext w w'∧(r=.bool (decide (t1=t2))):=by
 refine F8_call ?_
 unfold F8
 refine zaD zbt rfl h0 e0 fun w1_ hx1_ hA2 hV2=>?_
 refine zaD zbt rfl h1 (e1.trans hx1_) fun w2_ hx2_ hA3 hV3=>?_
 refine zaa zcH ?_
 refine zac zbP (zaZ hA2) hx2_ fun v6 h6=>?_
 refine zaa zcH ?_
 refine zac zbP (zaZ hA3) (Ext.refl w2_) fun v8 h8=>?_
 refine (ze4 h6 hx2_ h8 (Ext.refl w2_)).mono ?_
 rintro _ w3_ ⟨hx3_,rfl⟩
 refine zaz ?_
 refine br (fun c1=>?_) (fun c1=>?_)
 · refine ⟨(hx1_.trans (hx2_.trans hx3_)),?_⟩
   have:t1≠t2:=fun e=>c1 (by rw [e])
   simp [this]
 refine zaa zcn ?_
 refine zac zbP (zaR hA2) (hx2_.trans hx3_) fun v12 h12=>?_
 refine zaa zcn ?_
 refine zac zbP (zaR hA3) hx3_ fun v14 h14=>?_
 refine (ze4 h12 (hx2_.trans hx3_) h14 hx3_).mono ?_
 rintro _ w4_ ⟨hx4_,rfl⟩
 refine zaz ?_
 refine br (fun c2=>?_) (fun c2=>?_)
 · refine ⟨(hx1_.trans (hx2_.trans (hx3_.trans hx4_))),?_⟩
   have:t1≠t2:=fun e=>c2 (by rw [e])
   simp [this]
 refine zaa zba ?_
 refine zac zbP (zar hA2) (hx2_.trans (hx3_.trans hx4_)) fun v18 h18=>?_
 refine zaa zba ?_
 refine zac zbP (zar hA3) (hx3_.trans hx4_) fun v20 h20=>?_
 refine (ze4 h18 (hx2_.trans (hx3_.trans hx4_)) h20 (hx3_.trans hx4_)).mono ?_
 rintro _ w5_ ⟨hx5_,rfl⟩
 refine zaz ?_
 refine br (fun c3=>?_) (fun c3=>?_)
 · refine ⟨(hx1_.trans (hx2_.trans (hx3_.trans (hx4_.trans hx5_)))),?_⟩
   have:t1≠t2:=fun e=>c3 (by rw [e])
   simp [this]
 refine zaa za1 ?_
 refine zac zbE (zap hA2) (hx2_.trans (hx3_.trans (hx4_.trans hx5_))) fun v24 h24=>?_
 refine zaa za1 ?_
 refine zac zbE (zap hA3) (hx3_.trans (hx4_.trans hx5_)) fun v26 h26=>?_
 refine (zoz h24 (hx2_.trans (hx3_.trans (hx4_.trans hx5_))) h26 (hx3_.trans (hx4_.trans hx5_))).mono ?_
 rintro _ w6_ ⟨hx6_,rfl⟩
 refine zaz ?_
 refine br (fun c4=>?_) (fun c4=>?_)
 · refine ⟨(hx1_.trans (hx2_.trans (hx3_.trans (hx4_.trans (hx5_.trans hx6_))))),?_⟩
   have:t1≠t2:=fun e=>c4 (by rw [e])
   simp [this]
 refine zaa zaJ ?_
 refine zac zct (zai hA2) (hx2_.trans (hx3_.trans (hx4_.trans (hx5_.trans hx6_)))) fun v30 h30=>?_
 refine zaa zaJ ?_
 refine zac zct (zai hA3) (hx3_.trans (hx4_.trans (hx5_.trans hx6_))) fun v32 h32=>?_
 refine (zp6 h30 (hx2_.trans (hx3_.trans (hx4_.trans (hx5_.trans hx6_)))) h32 (hx3_.trans (hx4_.trans (hx5_.trans hx6_)))).mono ?_
 rintro _ w7_ ⟨hx7_,rfl⟩
 refine zaz ?_
 refine br (fun c5=>?_) (fun c5=>?_)
 · refine ⟨(hx1_.trans (hx2_.trans (hx3_.trans (hx4_.trans (hx5_.trans (hx6_.trans hx7_)))))),?_⟩
   have:t1≠t2:=fun e=>c5 (by rw [e])
   simp [this]
 refine ⟨(hx1_.trans (hx2_.trans (hx3_.trans (hx4_.trans (hx5_.trans (hx6_.trans hx7_)))))),?_⟩
 have:t1=t2:=DCode.ext_iff.2 ⟨Decidable.not_not.1 c1,Decidable.not_not.1 c2,Decidable.not_not.1 c3,Decidable.not_not.1 c4,Decidable.not_not.1 c5⟩
 simp [this]
theorem ze5 {w:World} {v:Value} {l:List ByteArray} (h:Is w v l) (hn:l.length≤1048576) :
   CALL Tryz.prog 17 [v] w fun r w'=>Ext w w'∧Own w.heap.size w' r l:=by
 refine F17_call ?_
 unfold F17
 refine zag u22 h ?_
 refine zj1 (α:=ByteArray) u22 ty9 z9 (by omega) (by omega) fun w1 hx1 hf=>?_
 refine zaq l.length (fun k us w'=>us=[.int .i64 (k:Int)]∧Ext w w'∧Fill w.heap.size 9 l.length [] w' (l.take k)) 0 (Nat.zero_le _) ⟨rfl,hx1,by simpa using hf⟩ ?_
 rintro k m u w2 hkm ⟨hu,hx2,hf2⟩
 simp only [List.map_cons,List.map_nil,List.cons.injEq,and_true] at hu
 rw [hu]
 refine zag u22 h ?_
 refine zah ?_
 refine br (fun hlt=>?_) (fun hge=>?_)
 · have hk:k<l.length:=by omega
   refine zad u22 ty9 h hk fun b o hA=>?_
   refine zaH ty9 hA hx2 fun hI=>?_
   refine zdy u22 ty9 hk ?_
   refine zhw (α:=ByteArray) ty9 hf2 (by simp [Rep.size];omega) (by simp;omega) (⟨⟨_,⟨rfl,rfl,hI⟩,rfl⟩,List.nodup_nil,Wr.nil _⟩:Mine [] w2 _ l[k]) (by simp) fun w3 hc3 hf3=>?_
   refine zaf (by have:=zam h;omega) ?_
   refine ⟨m-1,by omega,k+1,by omega,rfl,hx2.chg_trans hc3 (by simp),?_⟩
   rw [List.take_succ_eq_append_getElem hk]
   simpa using hf3
 have hk:k=l.length:=by omega
 subst hk
 rw [List.take_length] at hf2
 exact ⟨hx2,_,hf2.own rfl (by rw [zan];omega),by simp⟩
def ztf (t:DTerm):Prop:=∀ {w:World} {v:Value},Is w v t→wT t≤1048576 →
 CALL Tryz.prog 82 [v] w fun r w'=>Ext w w'∧Own w.heap.size w' r t
def ztV (l:List DTerm):Prop:=∀ {w:World} {v:Value},Is w v l→wTs l≤1048576 →
 CALL Tryz.prog 136 [v] w fun r w'=>Ext w w'∧Own w.heap.size w' r l
theorem zju {α:Type} [Rep α] {g e n lo:Nat} {Fi F1:List Nat} {w w':World} {l:List α} {v:Value} {x:α} (hf:Fill g e n Fi w l) (hm:Mine F1 w' v x) (hl:∀ b∈F1,w.heap.size≤b):(F1++(g :: Fi)).Nodup:=by
 rw [List.nodup_append]
 refine ⟨hm.nodup,by obtain ⟨_,_,_,_,_,hn,_⟩:=hf;exact hn,fun a ha c hc e=>?_⟩
 subst e
 have:=hl a ha
 have:=hf.lt a hc
 omega
theorem zls {w:World} {v:Value} {l:List DTerm} (ih:∀ t∈l,ztf t) (h:Is w v l) (hn:wTs l≤1048576) :
   CALL Tryz.prog 136 [v] w fun r w'=>Ext w w'∧Own w.heap.size w' r l:=by
 rw [ztc] at hn
 refine F136_call ?_
 unfold F136
 refine zag u70 h ?_
 refine zj1 (α:=DTerm) u90 zdu z92 (by omega) (by omega) fun w1 hx1 hf=>?_
 refine zaq l.length (fun k us w'=>us=[.int .i64 (k:Int)]∧Ext w w'∧∃ Fi,Fill w.heap.size 92 l.length Fi w' (l.take k)∧∀ b∈Fi,w.heap.size≤b) 0 (Nat.zero_le _) ⟨rfl,hx1,[],by simpa using hf,by simp⟩ ?_
 rintro k m u w2 hkm ⟨hu,hx2,Fi,hf2,hFl⟩
 simp only [List.map_cons,List.map_nil,List.cons.injEq,and_true] at hu
 rw [hu]
 refine zag u70 h ?_
 refine zah ?_
 refine br (fun hlt=>?_) (fun hge=>?_)
 · have hk:k<l.length:=by omega
   refine zad u70 zs5 h hk fun b o hA=>?_
   refine zac zs5 hA hx2 fun v19 h19=>?_
   refine (ih _ (List.getElem_mem hk) (h19.ext hx2) (by have:=ztb wT (List.getElem_mem hk);omega)).mono ?_
   rintro r20 w3 ⟨hx3,F20,hm20,hl20⟩
   refine zdy u90 zdu hk ?_
   refine zhw (α:=DTerm) zdu (hf2.ext hx3) (by simp [Rep.size];omega) (by simp;omega) hm20 (zju (lo:=0) hf2 hm20 hl20) fun w4 hc4 hf4=>?_
   refine zaf (by have:=zam h;omega) ?_
   refine ⟨m-1,by omega,k+1,by omega,rfl,(hx2.trans hx3).chg_trans hc4 (by simp),Fi++F20,?_,?_⟩
   · rw [List.take_succ_eq_append_getElem hk]
     exact hf4
   intro b hb
   rcases List.mem_append.1 hb with hb | hb
   · exact hFl b hb
   exact Nat.le_trans hx2.size (hl20 b hb)
 have hk:k=l.length:=by omega
 subst hk
 rw [List.take_length] at hf2
 exact ⟨hx2,_,hf2.own rfl (by rw [zan];omega),by simpa using hFl⟩
def F82 (a0:Value) (w:World) (R:VW):Prop:=
 oP (Instr.box 72 a0) w fun x1 w=>
 oP (Instr.alloc 92 true (.tuple #[])) w fun x2 w=>
 oP (Instr.alloc 92 true (.tuple #[])) w fun x3 w=>
 rF 72 x1 0 w fun x4=>
 rL 3 x4 w fun x5=>
 rF 92 x3 0 w fun x6=>
 oS 3 x6 x5 w fun w=>
 rF 72 x1 1 w fun x7=>
 rL 3 x7 w fun x8=>
 rF 92 x3 1 w fun x9=>
 oS 3 x9 x8 w fun w=>
 rF 72 x1 2 w fun x10=>
 rL 9 x10 w fun x11=>
 rF 92 x3 2 w fun x12=>
 oS 9 x12 x11 w fun w=>
 rF 72 x1 3 w fun x13=>
 rL 70 x13 w fun x14=>
 cL 136 [x14] w fun x15 w=>
 rF 92 x3 3 w fun x16=>
 oS 90 x16 x15 w fun w=>
 rL 92 x3 w fun x17=>
 oS 92 x2 x17 w fun w=>
 rD (zeX 92 x2) w fun r2=>R r2 w
def cfg82:Cfg:=⟨extL,[],[],[],[],[],[]⟩
theorem F82_call {a0:Value} {w:World} {R:VW} (h:F82 a0 w R):cL 82 [a0] w R:=co (g:=cfg82) Tryz.func82 (by kernel_rfl) (by kernel_rfl) (by kernel_rfl) h
theorem zmH {w:World} {v0:Value} {W0:World} {t:DTerm}  (h0:Is W0 v0 t) (e0:Ext W0 w) (ih:ztV t.kids) (hn:wT t≤1048576) :
   CALL Tryz.prog 82 [v0] w fun r w'=>Ext w w'∧(Own w.heap.size w' r t):=by
 refine F82_call ?_
 unfold F82
 have hn':wTs t.kids≤1048576:=by rw [zu5] at hn;omega
 have hs_e0:=e0.size
 refine zaD zs5 rfl h0 e0 fun w1_ hx1_ hA1 hV1=>?_
 have hs_hx1_:=hx1_.size
 refine zfP (α:=DTerm) zuX fun w2_ hx2_ hv2=>?_
 have hg2:=hv2.lt
 have hs_hx2_:=hx2_.size
 refine zfP (α:=DTerm) zuX fun w3_ hx3_ hv3=>?_
 have hg3:=hv3.lt
 have hs_hx3_:=hx3_.size
 refine zaa zuS ?_
 refine zab ty3 (zbG hA1) (hx2_.trans hx3_) fun hI5=>?_
 refine zaa zeO ?_
 obtain ⟨Fv4,hO4,hF4⟩:=(hv3.ext (Ext.refl w3_))
 obtain ⟨Gv4,hL4⟩:=zlc (Lens.var hO4)
 refine zci ty3 hL4 hF4 (zew (lo:=w3_.heap.size) (hi:=w3_.heap.size) (by first | assumption | (unfold I64 at *;omega))) (by omega) (by omega) fun w4_ hc4_ hv4_=>?_
 have hv3_s4:=hv4_ (w3_.heap.size) (by omega) (by omega) (w3_.heap.size) (by omega) (by omega)
 clear hv4_ hL4 hO4 hF4
 have hs_hc4_:=hc4_.size
 have hv2_c4:=(hv2.ext hx3_).chg hc4_ (by omega) (by omega)
 refine zaa zuT ?_
 refine zab ty3 (zbz hA1) (Ext.chgI (hx2_.trans hx3_) hc4_ (by omega)) fun hI8=>?_
 refine zaa zd8 ?_
 obtain ⟨Fv5,hO5,hF5⟩:=(hv3_s4.ext (Ext.refl w4_))
 obtain ⟨Gv5,hL5⟩:=zld (Lens.var hO5)
 refine zci ty3 hL5 hF5 (zew (lo:=w4_.heap.size) (hi:=w4_.heap.size) (by first | assumption | (unfold I64 at *;omega))) (by omega) (by omega) fun w5_ hc5_ hv5_=>?_
 have hv3_s5:=hv5_ (w3_.heap.size) (by omega) (by omega) (w4_.heap.size) (by omega) (by omega)
 clear hv5_ hL5 hO5 hF5
 have hs_hc5_:=hc5_.size
 have hv2_c5:=(hv2_c4.ext (Ext.refl w4_)).chg hc5_ (by omega) (by omega)
 refine zaa zs6 ?_
 refine zaH ty9 (zbc hA1) (Ext.chgI (Ext.chgI (hx2_.trans hx3_) hc4_ (by omega)) hc5_ (by omega)) fun hS11=>?_
 refine zaa zdA ?_
 obtain ⟨Fv6,hO6,hF6⟩:=(hv3_s5.ext (Ext.refl w5_))
 obtain ⟨Gv6,hL6⟩:=zle (Lens.var hO6)
 refine zci ty9 hL6 hF6 (zrQ (lo:=w5_.heap.size) (hi:=w5_.heap.size) (by first | assumption | (rw [zan];omega) | (simp [zan];omega))) (by omega) (by omega) fun w6_ hc6_ hv6_=>?_
 have hv3_s6:=hv6_ (w3_.heap.size) (by omega) (by omega) (w5_.heap.size) (by omega) (by omega)
 clear hv6_ hL6 hO6 hF6
 have hs_hc6_:=hc6_.size
 have hv2_c6:=(hv2_c5.ext (Ext.refl w5_)).chg hc6_ (by omega) (by omega)
 refine zaa zs7 ?_
 refine zac zvR (zaN hA1) (Ext.chgI (Ext.chgI (Ext.chgI (hx2_.trans hx3_) hc4_ (by omega)) hc5_ (by omega)) hc6_ (by omega)) fun v14 h14=>?_
 refine (ih (h14.ext (Ext.chgI (Ext.chgI (Ext.chgI (hx2_.trans hx3_) hc4_ (by omega)) hc5_ (by omega)) hc6_ (by omega))) (by omega)).mono ?_
 rintro r15 w7_ ⟨hx7_,o15⟩
 have o15:=o15.toI
 have hs_hx7_:=hx7_.size
 refine zaa zb3 ?_
 obtain ⟨Fv8,hO8,hF8⟩:=(hv3_s6.ext hx7_)
 obtain ⟨Gv8,hL8⟩:=zlf (Lens.var hO8)
 refine zci zhr hL8 hF8 (o15.ext (Ext.refl w7_)) (by omega) (by omega) fun w8_ hc8_ hv8_=>?_
 have hv3_s8:=hv8_ (w3_.heap.size) (by omega) (by omega) (w7_.heap.size) (by omega) (by omega)
 clear hv8_ hL8 hO8 hF8
 have hs_hc8_:=hc8_.size
 have hv2_c8:=(hv2_c6.ext hx7_).chg hc8_ (by omega) (by omega)
 have o15_c8:=(o15.ext (Ext.refl w7_)).chg hc8_ (by omega)
 refine zmv zdu hv3_s8 (Ext.refl w8_) fun v17 o17=>?_
 refine zhy zdu (hv2_c8.ext (Ext.refl w8_)) (o17.ext (Ext.refl w8_)) (by omega) fun w9_ hc9_ hv2_s9=>?_
 have hs_hc9_:=hc9_.size
 have hv3_s8_c9:=(hv3_s8.ext (Ext.refl w8_)).chg hc9_ (by omega) (by omega)
 have o15_c9:=(o15_c8.ext (Ext.refl w8_)).chg hc9_ (by omega)
 have o17_c9:=(o17.ext (Ext.refl w8_)).chg hc9_ (by omega)
 refine zhx zdu hv2_s9 (Ext.refl w9_) fun r2 hr2=>?_
 replace hr2:=hr2.ext (Ext.refl w9_)
 refine ⟨(Ext.chgI (Ext.chgI ((Ext.chgI (Ext.chgI (Ext.chgI ((hx1_.trans hx2_).trans hx3_) hc4_ (by omega)) hc5_ (by omega)) hc6_ (by omega)).trans hx7_) hc8_ (by omega)) hc9_ (by omega)),?_⟩
 have:=(hr2.mono (lo':=w.heap.size) (by omega) (Nat.le_refl _)).own
 cases t
 exact this
theorem zp8 (t:DTerm):ztf t:=DTerm.ind (fun t ih {w v} h hn=>zmH h (Ext.refl w) (fun {_ _} h hn=>zls ih h hn) hn) t
def F43 (a0:Value) (w:World) (R:VW):Prop:=
 oP (Instr.box 74 a0) w fun x1 w=>
 oP (Instr.alloc 94 true (.tuple #[])) w fun x2 w=>
 oP (Instr.alloc 94 true (.tuple #[])) w fun x3 w=>
 rF 74 x1 0 w fun x4=>
 rL 3 x4 w fun x5=>
 rF 94 x3 0 w fun x6=>
 oS 3 x6 x5 w fun w=>
 rF 74 x1 1 w fun x7=>
 rL 3 x7 w fun x8=>
 rF 94 x3 1 w fun x9=>
 oS 3 x9 x8 w fun w=>
 rF 74 x1 2 w fun x10=>
 rL 72 x10 w fun x11=>
 cL 82 [x11] w fun x12 w=>
 rF 94 x3 2 w fun x13=>
 oS 92 x13 x12 w fun w=>
 rF 74 x1 3 w fun x14=>
 rL 3 x14 w fun x15=>
 rF 94 x3 3 w fun x16=>
 oS 3 x16 x15 w fun w=>
 rL 94 x3 w fun x17=>
 oS 94 x2 x17 w fun w=>
 rD (zeX 94 x2) w fun r2=>R r2 w
def cfg43:Cfg:=⟨extL,[],[],[],[],[],[]⟩
theorem F43_call {a0:Value} {w:World} {R:VW} (h:F43 a0 w R):cL 43 [a0] w R:=co (g:=cfg43) Tryz.func43 (by kernel_rfl) (by kernel_rfl) (by kernel_rfl) h
theorem zr3 {w:World} {v0:Value} {W0:World} {t:DIns}  (h0:Is W0 v0 t) (e0:Ext W0 w) (hn:wT t.term≤1048576) :
   CALL Tryz.prog 43 [v0] w fun r w'=>Ext w w'∧(Own w.heap.size w' r t):=by
 refine F43_call ?_
 unfold F43
 have hs_e0:=e0.size
 refine zaD zux rfl h0 e0 fun w1_ hx1_ hA1 hV1=>?_
 have hs_hx1_:=hx1_.size
 refine zfP (α:=DIns) zmj fun w2_ hx2_ hv2=>?_
 have hg2:=hv2.lt
 have hs_hx2_:=hx2_.size
 refine zfP (α:=DIns) zmj fun w3_ hx3_ hv3=>?_
 have hg3:=hv3.lt
 have hs_hx3_:=hx3_.size
 refine zaa zuU ?_
 refine zab ty3 (zas hA1) (hx2_.trans hx3_) fun hI5=>?_
 refine zaa za6 ?_
 obtain ⟨Fv4,hO4,hF4⟩:=(hv3.ext (Ext.refl w3_))
 obtain ⟨Gv4,hL4⟩:=zmz (Lens.var hO4)
 refine zci ty3 hL4 hF4 (zew (lo:=w3_.heap.size) (hi:=w3_.heap.size) (by first | assumption | (unfold I64 at *;omega))) (by omega) (by omega) fun w4_ hc4_ hv4_=>?_
 have hv3_s4:=hv4_ (w3_.heap.size) (by omega) (by omega) (w3_.heap.size) (by omega) (by omega)
 clear hv4_ hL4 hO4 hF4
 have hs_hc4_:=hc4_.size
 have hv2_c4:=(hv2.ext hx3_).chg hc4_ (by omega) (by omega)
 refine zaa zuV ?_
 refine zab ty3 (zav hA1) (Ext.chgI (hx2_.trans hx3_) hc4_ (by omega)) fun hI8=>?_
 refine zaa za7 ?_
 obtain ⟨Fv5,hO5,hF5⟩:=(hv3_s4.ext (Ext.refl w4_))
 obtain ⟨Gv5,hL5⟩:=zmA (Lens.var hO5)
 refine zci ty3 hL5 hF5 (zew (lo:=w4_.heap.size) (hi:=w4_.heap.size) (by first | assumption | (unfold I64 at *;omega))) (by omega) (by omega) fun w5_ hc5_ hv5_=>?_
 have hv3_s5:=hv5_ (w3_.heap.size) (by omega) (by omega) (w4_.heap.size) (by omega) (by omega)
 clear hv5_ hL5 hO5 hF5
 have hs_hc5_:=hc5_.size
 have hv2_c5:=(hv2_c4.ext (Ext.refl w4_)).chg hc5_ (by omega) (by omega)
 refine zaa zs8 ?_
 refine zac zs5 (zbu hA1) (Ext.chgI (Ext.chgI (hx2_.trans hx3_) hc4_ (by omega)) hc5_ (by omega)) fun v11 h11=>?_
 refine ((zp8 _) (h11.ext (Ext.chgI (Ext.chgI (hx2_.trans hx3_) hc4_ (by omega)) hc5_ (by omega))) (by assumption)).mono ?_
 rintro r12 w6_ ⟨hx6_,o12⟩
 have o12:=o12.toI
 have hs_hx6_:=hx6_.size
 refine zaa zdB ?_
 obtain ⟨Fv7,hO7,hF7⟩:=(hv3_s5.ext hx6_)
 obtain ⟨Gv7,hL7⟩:=zmB (Lens.var hO7)
 refine zci zdu hL7 hF7 (o12.ext (Ext.refl w6_)) (by omega) (by omega) fun w7_ hc7_ hv7_=>?_
 have hv3_s7:=hv7_ (w3_.heap.size) (by omega) (by omega) (w6_.heap.size) (by omega) (by omega)
 clear hv7_ hL7 hO7 hF7
 have hs_hc7_:=hc7_.size
 have hv2_c7:=(hv2_c5.ext hx6_).chg hc7_ (by omega) (by omega)
 have o12_c7:=(o12.ext (Ext.refl w6_)).chg hc7_ (by omega)
 refine zaa zuW ?_
 refine zab ty3 (zbv hA1) (Ext.chgI ((Ext.chgI (Ext.chgI (hx2_.trans hx3_) hc4_ (by omega)) hc5_ (by omega)).trans hx6_) hc7_ (by omega)) fun hI15=>?_
 refine zaa zdg ?_
 obtain ⟨Fv8,hO8,hF8⟩:=(hv3_s7.ext (Ext.refl w7_))
 obtain ⟨Gv8,hL8⟩:=zmC (Lens.var hO8)
 refine zci ty3 hL8 hF8 (zew (lo:=w7_.heap.size) (hi:=w7_.heap.size) (by first | assumption | (unfold I64 at *;omega))) (by omega) (by omega) fun w8_ hc8_ hv8_=>?_
 have hv3_s8:=hv8_ (w3_.heap.size) (by omega) (by omega) (w7_.heap.size) (by omega) (by omega)
 clear hv8_ hL8 hO8 hF8
 have hs_hc8_:=hc8_.size
 have hv2_c8:=(hv2_c7.ext (Ext.refl w7_)).chg hc8_ (by omega) (by omega)
 have o12_c8:=(o12_c7.ext (Ext.refl w7_)).chg hc8_ (by omega)
 refine zmv zcb hv3_s8 (Ext.refl w8_) fun v17 o17=>?_
 refine zhy zcb (hv2_c8.ext (Ext.refl w8_)) (o17.ext (Ext.refl w8_)) (by omega) fun w9_ hc9_ hv2_s9=>?_
 have hs_hc9_:=hc9_.size
 have hv3_s8_c9:=(hv3_s8.ext (Ext.refl w8_)).chg hc9_ (by omega) (by omega)
 have o12_c9:=(o12_c8.ext (Ext.refl w8_)).chg hc9_ (by omega)
 have o17_c9:=(o17.ext (Ext.refl w8_)).chg hc9_ (by omega)
 refine zhx zcb hv2_s9 (Ext.refl w9_) fun r2 hr2=>?_
 replace hr2:=hr2.ext (Ext.refl w9_)
 refine ⟨(Ext.chgI (Ext.chgI (Ext.chgI ((Ext.chgI (Ext.chgI ((hx1_.trans hx2_).trans hx3_) hc4_ (by omega)) hc5_ (by omega)).trans hx6_) hc7_ (by omega)) hc8_ (by omega)) hc9_ (by omega)),?_⟩
 exact (hr2.mono (lo':=w.heap.size) (by omega) (Nat.le_refl _)).own
theorem zp9 {w:World} {v:Value} {l:List DIns} (h:Is w v l) (hn:zu6 l≤1048576) :
   CALL Tryz.prog 19 [v] w fun r w'=>Ext w w'∧Own w.heap.size w' r l:=by
 unfold zu6 at hn
 refine F19_call ?_
 unfold F19
 refine zag u24 h ?_
 refine zj1 (α:=DIns) u29 zcb z94 (by omega) (by omega) fun w1 hx1 hf=>?_
 refine zaq l.length (fun k us w'=>us=[.int .i64 (k:Int)]∧Ext w w'∧∃ Fi,Fill w.heap.size 94 l.length Fi w' (l.take k)∧∀ b∈Fi,w.heap.size≤b) 0 (Nat.zero_le _) ⟨rfl,hx1,[],by simpa using hf,by simp⟩ ?_
 rintro k m u w2 hkm ⟨hu,hx2,Fi,hf2,hFl⟩
 simp only [List.map_cons,List.map_nil,List.cons.injEq,and_true] at hu
 rw [hu]
 refine zag u24 h ?_
 refine zah ?_
 refine br (fun hlt=>?_) (fun hge=>?_)
 · have hk:k<l.length:=by omega
   refine zad u24 zux h hk fun b o hA=>?_
   refine zac zux hA hx2 fun v19 h19=>?_
   refine (zr3 h19 hx2 (by have:=ztb (fun i:DIns=>wT i.term) (List.getElem_mem hk);omega)).mono ?_
   rintro r20 w3 ⟨hx3,F20,hm20,hl20⟩
   refine zdy u29 zcb hk ?_
   refine zhw (α:=DIns) zcb (hf2.ext hx3) (by simp [Rep.size];omega) (by simp;omega) hm20 (zju (lo:=0) hf2 hm20 hl20) fun w4 hc4 hf4=>?_
   refine zaf (by have:=zam h;omega) ?_
   refine ⟨m-1,by omega,k+1,by omega,rfl,(hx2.trans hx3).chg_trans hc4 (by simp),Fi++F20,?_,?_⟩
   · rw [List.take_succ_eq_append_getElem hk]
     exact hf4
   intro b hb
   rcases List.mem_append.1 hb with hb | hb
   · exact hFl b hb
   exact Nat.le_trans hx2.size (hl20 b hb)
 have hk:k=l.length:=by omega
 subst hk
 rw [List.take_length] at hf2
 exact ⟨hx2,_,hf2.own rfl (by rw [zan];omega),by simpa using hFl⟩
def F6 (a0:Value) (w:World) (R:VW):Prop:=
 oP (Instr.box 26 a0) w fun x1 w=>
 oP (Instr.alloc 31 true (.tuple #[])) w fun x2 w=>
 oP (Instr.alloc 31 true (.tuple #[])) w fun x3 w=>
 rF 26 x1 0 w fun x4=>
 rL 22 x4 w fun x5=>
 cL 17 [x5] w fun x6 w=>
 rF 31 x3 0 w fun x7=>
 oS 22 x7 x6 w fun w=>
 rF 26 x1 1 w fun x8=>
 rL 22 x8 w fun x9=>
 cL 17 [x9] w fun x10 w=>
 rF 31 x3 1 w fun x11=>
 oS 22 x11 x10 w fun w=>
 rF 26 x1 2 w fun x12=>
 rL 22 x12 w fun x13=>
 cL 17 [x13] w fun x14 w=>
 rF 31 x3 2 w fun x15=>
 oS 22 x15 x14 w fun w=>
 rF 26 x1 3 w fun x16=>
 rL 23 x16 w fun x17=>
 cL 18 [x17] w fun x18 w=>
 rF 31 x3 3 w fun x19=>
 oS 23 x19 x18 w fun w=>
 rF 26 x1 4 w fun x20=>
 rL 24 x20 w fun x21=>
 cL 19 [x21] w fun x22 w=>
 rF 31 x3 4 w fun x23=>
 oS 29 x23 x22 w fun w=>
 rL 31 x3 w fun x24=>
 oS 31 x2 x24 w fun w=>
 rD (zeX 31 x2) w fun r2=>R r2 w
def cfg6:Cfg:=⟨extL,[],[],[],[],[],[]⟩
theorem F6_call {a0:Value} {w:World} {R:VW} (h:F6 a0 w R):cL 6 [a0] w R:=co (g:=cfg6) Tryz.func6 (by kernel_rfl) (by kernel_rfl) (by kernel_rfl) h
theorem zmI {w:World} {v0:Value} {W0:World} {t:DCode}  (h0:Is W0 v0 t) (e0:Ext W0 w) (hn:zmE t≤1048576) :
   CALL Tryz.prog 6 [v0] w fun r w'=>Ext w w'∧(Own w.heap.size w' r t):=by
 refine F6_call ?_
 unfold F6
 unfold zmE zuA at hn
 have hs_e0:=e0.size
 refine zaD zvz rfl h0 e0 fun w1_ hx1_ hA1 hV1=>?_
 have hs_hx1_:=hx1_.size
 refine zfP (α:=DCode) zvA fun w2_ hx2_ hv2=>?_
 have hg2:=hv2.lt
 have hs_hx2_:=hx2_.size
 refine zfP (α:=DCode) zvA fun w3_ hx3_ hv3=>?_
 have hg3:=hv3.lt
 have hs_hx3_:=hx3_.size
 refine zaa zs0 ?_
 refine zac zbP (zaZ hA1) (hx2_.trans hx3_) fun v5 h5=>?_
 refine (ze5 (h5.ext (hx2_.trans hx3_)) (by omega)).mono ?_
 rintro r6 w4_ ⟨hx4_,o6⟩
 have o6:=o6.toI
 have hs_hx4_:=hx4_.size
 refine zaa zcH ?_
 obtain ⟨Fv5,hO5,hF5⟩:=(hv3.ext hx4_)
 obtain ⟨Gv5,hL5⟩:=zlg (Lens.var hO5)
 refine zci zbP hL5 hF5 (o6.ext (Ext.refl w4_)) (by omega) (by omega) fun w5_ hc5_ hv5_=>?_
 have hv3_s5:=hv5_ (w3_.heap.size) (by omega) (by omega) (w4_.heap.size) (by omega) (by omega)
 clear hv5_ hL5 hO5 hF5
 have hs_hc5_:=hc5_.size
 have hv2_c5:=(hv2.ext (hx3_.trans hx4_)).chg hc5_ (by omega) (by omega)
 have o6_c5:=(o6.ext (Ext.refl w4_)).chg hc5_ (by omega)
 refine zaa zs1 ?_
 refine zac zbP (zaR hA1) (Ext.chgI ((hx2_.trans hx3_).trans hx4_) hc5_ (by omega)) fun v9 h9=>?_
 refine (ze5 (h9.ext (Ext.chgI ((hx2_.trans hx3_).trans hx4_) hc5_ (by omega))) (by omega)).mono ?_
 rintro r10 w6_ ⟨hx6_,o10⟩
 have o10:=o10.toI
 have hs_hx6_:=hx6_.size
 refine zaa zcn ?_
 obtain ⟨Fv7,hO7,hF7⟩:=(hv3_s5.ext hx6_)
 obtain ⟨Gv7,hL7⟩:=zlh (Lens.var hO7)
 refine zci zbP hL7 hF7 (o10.ext (Ext.refl w6_)) (by omega) (by omega) fun w7_ hc7_ hv7_=>?_
 have hv3_s7:=hv7_ (w3_.heap.size) (by omega) (by omega) (w6_.heap.size) (by omega) (by omega)
 clear hv7_ hL7 hO7 hF7
 have hs_hc7_:=hc7_.size
 have hv2_c7:=(hv2_c5.ext hx6_).chg hc7_ (by omega) (by omega)
 have o6_c7:=(o6_c5.ext hx6_).chg hc7_ (by omega)
 have o10_c7:=(o10.ext (Ext.refl w6_)).chg hc7_ (by omega)
 refine zaa zs2 ?_
 refine zac zbP (zar hA1) (Ext.chgI ((Ext.chgI ((hx2_.trans hx3_).trans hx4_) hc5_ (by omega)).trans hx6_) hc7_ (by omega)) fun v13 h13=>?_
 refine (ze5 (h13.ext (Ext.chgI ((Ext.chgI ((hx2_.trans hx3_).trans hx4_) hc5_ (by omega)).trans hx6_) hc7_ (by omega))) (by omega)).mono ?_
 rintro r14 w8_ ⟨hx8_,o14⟩
 have o14:=o14.toI
 have hs_hx8_:=hx8_.size
 refine zaa zba ?_
 obtain ⟨Fv9,hO9,hF9⟩:=(hv3_s7.ext hx8_)
 obtain ⟨Gv9,hL9⟩:=zli (Lens.var hO9)
 refine zci zbP hL9 hF9 (o14.ext (Ext.refl w8_)) (by omega) (by omega) fun w9_ hc9_ hv9_=>?_
 have hv3_s9:=hv9_ (w3_.heap.size) (by omega) (by omega) (w8_.heap.size) (by omega) (by omega)
 clear hv9_ hL9 hO9 hF9
 have hs_hc9_:=hc9_.size
 have hv2_c9:=(hv2_c7.ext hx8_).chg hc9_ (by omega) (by omega)
 have o6_c9:=(o6_c7.ext hx8_).chg hc9_ (by omega)
 have o10_c9:=(o10_c7.ext hx8_).chg hc9_ (by omega)
 have o14_c9:=(o14.ext (Ext.refl w8_)).chg hc9_ (by omega)
 refine zaa zs3 ?_
 refine zac zbE (zap hA1) (Ext.chgI ((Ext.chgI ((Ext.chgI ((hx2_.trans hx3_).trans hx4_) hc5_ (by omega)).trans hx6_) hc7_ (by omega)).trans hx8_) hc9_ (by omega)) fun v17 h17=>?_
 refine (zpN (h17.ext (Ext.chgI ((Ext.chgI ((Ext.chgI ((hx2_.trans hx3_).trans hx4_) hc5_ (by omega)).trans hx6_) hc7_ (by omega)).trans hx8_) hc9_ (by omega))) (by omega)).mono ?_
 rintro r18 w10_ ⟨hx10_,o18⟩
 have o18:=o18.toI
 have hs_hx10_:=hx10_.size
 refine zaa za1 ?_
 obtain ⟨Fv11,hO11,hF11⟩:=(hv3_s9.ext hx10_)
 obtain ⟨Gv11,hL11⟩:=zlj (Lens.var hO11)
 refine zci zbE hL11 hF11 (o18.ext (Ext.refl w10_)) (by omega) (by omega) fun w11_ hc11_ hv11_=>?_
 have hv3_s11:=hv11_ (w3_.heap.size) (by omega) (by omega) (w10_.heap.size) (by omega) (by omega)
 clear hv11_ hL11 hO11 hF11
 have hs_hc11_:=hc11_.size
 have hv2_c11:=(hv2_c9.ext hx10_).chg hc11_ (by omega) (by omega)
 have o6_c11:=(o6_c9.ext hx10_).chg hc11_ (by omega)
 have o10_c11:=(o10_c9.ext hx10_).chg hc11_ (by omega)
 have o14_c11:=(o14_c9.ext hx10_).chg hc11_ (by omega)
 have o18_c11:=(o18.ext (Ext.refl w10_)).chg hc11_ (by omega)
 refine zaa zs4 ?_
 refine zac zvO (zai hA1) (Ext.chgI ((Ext.chgI ((Ext.chgI ((Ext.chgI ((hx2_.trans hx3_).trans hx4_) hc5_ (by omega)).trans hx6_) hc7_ (by omega)).trans hx8_) hc9_ (by omega)).trans hx10_) hc11_ (by omega)) fun v21 h21=>?_
 refine (zp9 (h21.ext (Ext.chgI ((Ext.chgI ((Ext.chgI ((Ext.chgI ((hx2_.trans hx3_).trans hx4_) hc5_ (by omega)).trans hx6_) hc7_ (by omega)).trans hx8_) hc9_ (by omega)).trans hx10_) hc11_ (by omega))) (by omega)).mono ?_
 rintro r22 w12_ ⟨hx12_,o22⟩
 have o22:=o22.toI
 have hs_hx12_:=hx12_.size
 refine zaa zaJ ?_
 obtain ⟨Fv13,hO13,hF13⟩:=(hv3_s11.ext hx12_)
 obtain ⟨Gv13,hL13⟩:=zlk (Lens.var hO13)
 refine zci zct hL13 hF13 (o22.ext (Ext.refl w12_)) (by omega) (by omega) fun w13_ hc13_ hv13_=>?_
 have hv3_s13:=hv13_ (w3_.heap.size) (by omega) (by omega) (w12_.heap.size) (by omega) (by omega)
 clear hv13_ hL13 hO13 hF13
 have hs_hc13_:=hc13_.size
 have hv2_c13:=(hv2_c11.ext hx12_).chg hc13_ (by omega) (by omega)
 have o6_c13:=(o6_c11.ext hx12_).chg hc13_ (by omega)
 have o10_c13:=(o10_c11.ext hx12_).chg hc13_ (by omega)
 have o14_c13:=(o14_c11.ext hx12_).chg hc13_ (by omega)
 have o18_c13:=(o18_c11.ext hx12_).chg hc13_ (by omega)
 have o22_c13:=(o22.ext (Ext.refl w12_)).chg hc13_ (by omega)
 refine zmv zbt hv3_s13 (Ext.refl w13_) fun v24 o24=>?_
 refine zhy zbt (hv2_c13.ext (Ext.refl w13_)) (o24.ext (Ext.refl w13_)) (by omega) fun w14_ hc14_ hv2_s14=>?_
 have hs_hc14_:=hc14_.size
 have hv3_s13_c14:=(hv3_s13.ext (Ext.refl w13_)).chg hc14_ (by omega) (by omega)
 have o6_c14:=(o6_c13.ext (Ext.refl w13_)).chg hc14_ (by omega)
 have o10_c14:=(o10_c13.ext (Ext.refl w13_)).chg hc14_ (by omega)
 have o14_c14:=(o14_c13.ext (Ext.refl w13_)).chg hc14_ (by omega)
 have o18_c14:=(o18_c13.ext (Ext.refl w13_)).chg hc14_ (by omega)
 have o22_c14:=(o22_c13.ext (Ext.refl w13_)).chg hc14_ (by omega)
 have o24_c14:=(o24.ext (Ext.refl w13_)).chg hc14_ (by omega)
 refine zhx zbt hv2_s14 (Ext.refl w14_) fun r2 hr2=>?_
 replace hr2:=hr2.ext (Ext.refl w14_)
 refine ⟨(Ext.chgI (Ext.chgI ((Ext.chgI ((Ext.chgI ((Ext.chgI ((Ext.chgI (((hx1_.trans hx2_).trans hx3_).trans hx4_) hc5_ (by omega)).trans hx6_) hc7_ (by omega)).trans hx8_) hc9_ (by omega)).trans hx10_) hc11_ (by omega)).trans hx12_) hc13_ (by omega)) hc14_ (by omega)),?_⟩
 exact (hr2.mono (lo':=w.heap.size) (by omega) (Nat.le_refl _)).own
theorem zil {w:World} {v:Value} {t:DCode} (h:Is w v t) (hn:zmE t≤1048576):CALL Tryz.prog 6 [v] w fun r w'=>Ext w w'∧Own w.heap.size w' r t:=zmI h (Ext.refl w) hn
def zv4:DIns:=⟨0,0,term0,0⟩
def en (c:DCode) (i:Nat):Int:=c.entry.getD i 0
def zal (c:DCode) (j:Nat):DIns:=c.ins.getD j zv4
theorem zbe {c:DCode} {i:Nat} (h:i<c.entry.length):c.entry[i]=en c i:=by unfold en;rw [List.getD_eq_getElem?_getD,List.getElem?_eq_getElem h];rfl
theorem zaF {c:DCode} {i:Nat} (h:i<c.ins.length):c.ins[i]=zal c i:=by unfold zal;rw [List.getD_eq_getElem?_getD,List.getElem?_eq_getElem h];rfl
def prc (c:DCode) (a:Int):Nat→Int
 | 0=>-1
 | n+1=>if en c n≤a then n else prc c a n
def zat (c:DCode) (a:Int):Int:=prc c a c.entry.length
theorem zhC {c:DCode} {a:Int} {m:Nat}:∀ {n:Nat},m≤n→(∀ j,m≤j→j<n→a<en c j)→prc c a n=prc c a m
 | 0,h,_=>by rw [Nat.le_zero.1 h]
 | n+1,h,hj=>by
   by_cases e:m=n+1
   · rw [e]
   rw [prc,if_neg (by have:=hj n (by omega) (by omega);omega)]
   exact zhC (by omega) fun j h1 h2=>hj j h1 (by omega)
theorem ztg {c:DCode} {a:Int}:∀ (n:Nat),-1≤prc c a n∧prc c a n<n
 | 0=>by simp [prc]
 | n+1=>by
   have:=ztg (c:=c) (a:=a) n
   rw [prc]
   split<;>omega
theorem zgq {c:DCode} {a:Int}:-1≤zat c a∧zat c a<c.entry.length:=ztg _
def zeB (c:DCode) (p:Int):Int:=if p+1<c.entry.length then en c (p+1).toNat-1 else (c.ins.length:Int)-1
def zdh (c:DCode) (i:Nat):Int:=if i+1<c.entry.length then en c (i+1) else c.ins.length
theorem zdR (c:DCode) (i:Nat):zeB c i=zdh c i-1:=by
 unfold zeB zdh
 have e:((i:Int)+1).toNat=i+1:=by omega
 by_cases h:i+1<c.entry.length
 · rw [if_pos (by omega),if_pos h,e]
 rw [if_neg (by omega),if_neg h]
def F36 (a0 a1:Value) (w:World) (R:VW):Prop:=
 oP (Instr.box 31 a0) w fun x2 w=>
 rF 31 x2 3 w fun x6=>
 rL 23 x6 w fun x7=>
 rN 23 3 x7 w fun x8=>
 rB .sub 3 T0 U0 x8 (iV 1) w fun x9=>
 LOOPI [5] [x9] w fun u2 w next2=>
 rB .geq 3 T0 U0 (u2 5) (iV 0) w fun x11=>
 BR x11
 (rF 31 x2 3 w fun x14=>
 rL 23 x14 w fun x15=>
 rX 23 x15 (u2 5) w fun x17=>
 rL 3 x17 w fun x18=>
 rB .leq 3 T0 T0 x18 a1 w fun x20=>
 BR x20
 (R (u2 5) w)
 (rB .sub 3 T0 U0 (u2 5) (iV 1) w fun x13=>
 next2 [x13] w))
 (R (iV (-1)) w)
def cfg36:Cfg:=⟨extL,[],[(2,4193328,[5])],[],[],[],[]⟩
theorem F36_call {a0 a1:Value} {w:World} {R:VW} (h:F36 a0 a1 w R):cL 36 [a0,a1] w R:=co (g:=cfg36) Tryz.func36 (by kernel_rfl) (by kernel_rfl) (by kernel_rfl) h
theorem zea {w:World} {v0:Value} {W0:World} {c:DCode} {a:Int}  (h0:Is W0 v0 c) (e0:Ext W0 w)  :
   CALL Tryz.prog 36 [v0,.int .i64 a] w fun r w'=>Ext w w'∧(r=.int .i64 (zat c a)):=by
 refine F36_call ?_
 unfold F36
 refine zaD zbt rfl h0 e0 fun w1_ hx1_ hA2 hV2=>?_
 refine zaa za1 ?_
 refine zac zbE (zap hA2) (Ext.refl w1_) fun v7 h7=>?_
 have hln8:=zam h7
 refine zag u23 h7 ?_
 refine zbf (by unfold I64;omega) ?_
 refine zaq (c.entry.length) (fun k us w'=>us=[.int .i64 ((c.entry.length:Int)-1-(k:Int))]∧Ext w1_ w'∧(∀ j,c.entry.length-k≤j→j<c.entry.length→a<en c j)) (0) (by omega) ⟨by simp,Ext.refl w1_,fun j h1 h2=>by omega⟩ ?_
 rintro k m2 uu2 w2_ hk2 ⟨hu,hx2_,hinv⟩
 simp only [List.map_cons,List.map_nil,List.cons.injEq,and_true] at hu
 try rw [hu]
 try clear hu
 have hln:=zam h7
 refine zb9 ?_
 refine br (fun c1=>?_) (fun c1=>?_)
 · refine zaa za1 ?_
   refine zac zbE (zap hA2) hx2_ fun v15 h15=>?_
   refine zch u23 ty3 h15 (by omega) (by omega) fun b17 o17 h17=>?_
   have hn17:((c.entry.length:Int)-1-(k:Int)).toNat=c.entry.length-k-1:=by omega
   simp only [hn17] at h17
   refine zab ty3 h17 hx2_ fun hI18=>?_
   refine zdw ?_
   refine br (fun c2=>?_) (fun c2=>?_)
   · refine ⟨(hx1_.trans hx2_),?_⟩
     rw [zbe] at c2
     unfold zat
     rw [zhC (m:=c.entry.length-k) (by omega) hinv,show c.entry.length-k=(c.entry.length-k-1)+1 by omega,prc,if_pos c2]
     congr 1
     omega
   refine zbf (by unfold I64;omega) ?_
   refine ⟨m2-1,by omega,k+1,by omega,by simp;omega,hx2_,?_⟩
   intro j h1 h2
   by_cases hj:j=c.entry.length-k-1
   · subst hj
     rw [zbe] at c2
     omega
   exact hinv j (by omega) h2
 refine ⟨(hx1_.trans hx2_),?_⟩
 unfold zat
 rw [zhC (m:=c.entry.length-k) (by omega) hinv,show c.entry.length-k=0 by omega]
 rfl
def F67 (a0 a1:Value) (w:World) (R:VW):Prop:=
 oP (Instr.box 31 a0) w fun x2 w=>
 rA a1 (iV 1) w fun x6=>
 rF 31 x2 3 w fun x7=>
 rL 23 x7 w fun x8=>
 rN 23 3 x8 w fun x9=>
 rC x6 x9 w fun x10=>
 BR x10
 (rF 31 x2 3 w fun x11=>
 rL 23 x11 w fun x12=>
 rA a1 (iV 1) w fun x14=>
 rX 23 x12 x14 w fun x15=>
 rL 3 x15 w fun x16=>
 rB .sub 3 T0 U0 x16 (iV 1) w fun x17=>
 R x17 w)
 (rF 31 x2 4 w fun x18=>
 rL 29 x18 w fun x19=>
 rN 29 3 x19 w fun x20=>
 rB .sub 3 T0 U0 x20 (iV 1) w fun x21=>
 R x21 w)
def cfg67:Cfg:=⟨extL,[],[],[],[],[],[]⟩
theorem F67_call {a0 a1:Value} {w:World} {R:VW} (h:F67 a0 a1 w R):cL 67 [a0,a1] w R:=co (g:=cfg67) Tryz.func67 (by kernel_rfl) (by kernel_rfl) (by kernel_rfl) h
theorem zdE {w:World} {v0:Value} {W0:World} {c:DCode} {p:Int}  (h0:Is W0 v0 c) (e0:Ext W0 w) (hp0:-1≤p) (hp1:p<1000000000000) (hE:∀ i,i<c.entry.length→0≤en c i) :
   CALL Tryz.prog 67 [v0,.int .i64 p] w fun r w'=>Ext w w'∧(r=.int .i64 (zeB c p)):=by
 refine F67_call ?_
 unfold F67
 refine zaD zbt rfl h0 e0 fun w1_ hx1_ hA2 hV2=>?_
 refine znt (by unfold I64;omega) ?_
 refine zaa za1 ?_
 refine zac zbE (zap hA2) (Ext.refl w1_) fun v8 h8=>?_
 have hln9:=zam h8
 refine zag u23 h8 ?_
 refine zah ?_
 refine br (fun c1=>?_) (fun c1=>?_)
 · refine zaa za1 ?_
   refine zac zbE (zap hA2) (Ext.refl w1_) fun v12 h12=>?_
   refine znt (by unfold I64;omega) ?_
   refine zch u23 ty3 h12 (by omega) (by omega) fun b15 o15 h15=>?_
   refine zab ty3 h15 (Ext.refl w1_) fun hI16=>?_
   have hE1:=hE (p+1).toNat (by omega)
   rw [←zbe (by omega)] at hE1
   refine zbf (by unfold I64 at *;omega) ?_
   refine ⟨hx1_,?_⟩
   unfold zeB
   rw [if_pos c1,zbe]
 refine zaa zaJ ?_
 refine zac zct (zai hA2) (Ext.refl w1_) fun v19 h19=>?_
 have hln20:=zam h19
 refine zag u29 h19 ?_
 refine zbf (by unfold I64;have:=zam h19;omega) ?_
 refine ⟨hx1_,?_⟩
 unfold zeB
 rw [if_neg c1]
def zja:ByteArray:=ByteArray.mk #[109,97,105,110]
def NamesR (c:DCode):Prop:=(decide ((c.globals.length:Int)≤6)&&c.globals.all zbx)=true∧(decide ((c.locks.length:Int)≤6)&&c.locks.all zbx)=true∧(decide ((c.procs.length:Int)≤8)&&c.procs.all zbx)=true ∧
 c.globals.Nodup∧c.locks.Nodup∧c.procs.Nodup∧zja∈c.procs
instance (c:DCode):Decidable (NamesR c):=by unfold NamesR;infer_instance
def EntS (c:DCode):Prop:=c.entry.length=c.procs.length∧c.ins.length≤1500∧(∀ i,i<c.entry.length→(i=0→en c 0=0)∧(0<i→en c (i-1)<en c i)∧en c i<c.ins.length) ∧
 ∀ j,j<c.ins.length→((zal c j).op=9↔zeB c (zat c j)=j)
instance (c:DCode):Decidable (EntS c):=by unfold EntS;infer_instance
theorem zgr {P:Nat→Prop} {k:Nat} (h:∀ i,i<k→P i) (hk:P k):∀ i,i<k+1→P i:=fun i hi=>by
 by_cases e:i=k
 · rw [e];exact hk
 exact h i (by omega)
theorem zgR {c:DCode} {n:Nat} {m:Int} (h:∀ i,i<n→(i=0→en c 0=0)∧(0<i→en c (i-1)<en c i)∧en c i<m):∀ i,i<n→0≤en c i
 | 0,hi=>by rw [(h 0 hi).1 rfl];omega
 | i+1,hi=>by
   have h1:=zgR h i (by omega)
   have h2:=(h (i+1) hi).2.1 (by omega)
   simp only [Nat.add_sub_cancel] at h2
   omega
def F32 (a0:Value) (w:World) (R:VW):Prop:=
 oP (Instr.box 31 a0) w fun x1 w=>
 rF 31 x1 0 w fun x5=>
 rL 22 x5 w fun x6=>
 cL 64 [x6,(iV 6)] w fun x7 w=>
 rD (Op.unary .not x7) w fun x8=>
 BR x8
 (R (Value.bool false) w)
 (rF 31 x1 1 w fun x10=>
 rL 22 x10 w fun x11=>
 cL 64 [x11,(iV 6)] w fun x12 w=>
 rD (Op.unary .not x12) w fun x13=>
 BR x13
 (R (Value.bool false) w)
 (rF 31 x1 2 w fun x16=>
 rL 22 x16 w fun x17=>
 cL 64 [x17,(iV 8)] w fun x18 w=>
 rD (Op.unary .not x18) w fun x19=>
 BR x19
 (R (Value.bool false) w)
 (rF 31 x1 0 w fun x22=>
 rL 22 x22 w fun x23=>
 cL 65 [x23] w fun x24 w=>
 BR x24
 (R (Value.bool false) w)
 (rF 31 x1 1 w fun x27=>
 rL 22 x27 w fun x28=>
 cL 65 [x28] w fun x29 w=>
 BR x29
 (R (Value.bool false) w)
 (rF 31 x1 2 w fun x32=>
 rL 22 x32 w fun x33=>
 cL 65 [x33] w fun x34 w=>
 BR x34
 (R (Value.bool false) w)
 (rF 31 x1 3 w fun x37=>
 rL 23 x37 w fun x38=>
 rN 23 3 x38 w fun x39=>
 rF 31 x1 2 w fun x40=>
 rL 22 x40 w fun x41=>
 rN 22 3 x41 w fun x42=>
 rB .neq 3 T0 T0 x39 x42 w fun x43=>
 BR x43
 (R (Value.bool false) w)
 (rF 31 x1 4 w fun x46=>
 rL 29 x46 w fun x47=>
 rN 29 3 x47 w fun x48=>
 rB .gtr 3 T0 U0 x48 (iV 1500) w fun x49=>
 BR x49
 (R (Value.bool false) w)
 (rF 31 x1 2 w fun x52=>
 rL 22 x52 w fun x53=>
 cL 66 [x53,(Value.string (ByteArray.mk #[109,97,105,110]))] w fun x54 w=>
 rB .lss 3 T0 U0 x54 (iV 0) w fun x55=>
 BR x55
 (R (Value.bool false) w)
 (LOOPI [3] [(iV 0)] w fun u4 w next4=>
 rF 31 x1 3 w fun x58=>
 rL 23 x58 w fun x59=>
 rN 23 3 x59 w fun x60=>
 rC (u4 3) x60 w fun x61=>
 BR x61
 ((fun w=>rB .eql 3 T0 U0 (u4 3) (iV 0) w fun x65=>
 BR x65
 (rF 31 x1 3 w fun x67=>
 rL 23 x67 w fun x68=>
 rX 23 x68 (iV 0) w fun x69=>
 rL 3 x69 w fun x70=>
 rB .neq 3 T0 U0 x70 (iV 0) w fun x71=>
 BR x71
 (R (Value.bool false) w)
 (rB .gtr 3 T0 U0 (u4 3) (iV 0) w fun x75=>
 GBR x75
 (rF 31 x1 3 w fun x77=>
 rL 23 x77 w fun x78=>
 rX 23 x78 (u4 3) w fun x80=>
 rL 3 x80 w fun x81=>
 rF 31 x1 3 w fun x82=>
 rL 23 x82 w fun x83=>
 rB .sub 3 T0 U0 (u4 3) (iV 1) w fun x85=>
 rX 23 x83 x85 w fun x86=>
 rL 3 x86 w fun x87=>
 rB .leq 3 T0 T0 x81 x87 w fun x88=>
 BR x88
 (R (Value.bool false) w)
 (rF 31 x1 3 w fun x92=>
 rL 23 x92 w fun x93=>
 rX 23 x93 (u4 3) w fun x95=>
 rL 3 x95 w fun x96=>
 rF 31 x1 4 w fun x97=>
 rL 29 x97 w fun x98=>
 rN 29 3 x98 w fun x99=>
 rB .geq 3 T0 T0 x96 x99 w fun x100=>
 BR x100
 (R (Value.bool false) w)
 (rA (u4 3) (iV 1) w fun x63=>
 next4 [x63] w)))
 (rF 31 x1 3 w fun x92=>
 rL 23 x92 w fun x93=>
 rX 23 x93 (u4 3) w fun x95=>
 rL 3 x95 w fun x96=>
 rF 31 x1 4 w fun x97=>
 rL 29 x97 w fun x98=>
 rN 29 3 x98 w fun x99=>
 rB .geq 3 T0 T0 x96 x99 w fun x100=>
 BR x100
 (R (Value.bool false) w)
 (rA (u4 3) (iV 1) w fun x63=>
 next4 [x63] w))
 (BR undef
 (BR undef
 (R (Value.bool false) w)
 (rF 31 x1 3 w fun x92=>
 rL 23 x92 w fun x93=>
 rX 23 x93 (u4 3) w fun x95=>
 rL 3 x95 w fun x96=>
 rF 31 x1 4 w fun x97=>
 rL 29 x97 w fun x98=>
 rN 29 3 x98 w fun x99=>
 rB .geq 3 T0 T0 x96 x99 w fun x100=>
 BR x100
 (R (Value.bool false) w)
 (rA (u4 3) (iV 1) w fun x63=>
 next4 [x63] w)))
 (rF 31 x1 3 w fun x92=>
 rL 23 x92 w fun x93=>
 rX 23 x93 (u4 3) w fun x95=>
 rL 3 x95 w fun x96=>
 rF 31 x1 4 w fun x97=>
 rL 29 x97 w fun x98=>
 rN 29 3 x98 w fun x99=>
 rB .geq 3 T0 T0 x96 x99 w fun x100=>
 BR x100
 (R (Value.bool false) w)
 (rA (u4 3) (iV 1) w fun x63=>
 next4 [x63] w)))))
 (rB .gtr 3 T0 U0 (u4 3) (iV 0) w fun x75=>
 GBR x75
 (rF 31 x1 3 w fun x77=>
 rL 23 x77 w fun x78=>
 rX 23 x78 (u4 3) w fun x80=>
 rL 3 x80 w fun x81=>
 rF 31 x1 3 w fun x82=>
 rL 23 x82 w fun x83=>
 rB .sub 3 T0 U0 (u4 3) (iV 1) w fun x85=>
 rX 23 x83 x85 w fun x86=>
 rL 3 x86 w fun x87=>
 rB .leq 3 T0 T0 x81 x87 w fun x88=>
 BR x88
 (R (Value.bool false) w)
 (rF 31 x1 3 w fun x92=>
 rL 23 x92 w fun x93=>
 rX 23 x93 (u4 3) w fun x95=>
 rL 3 x95 w fun x96=>
 rF 31 x1 4 w fun x97=>
 rL 29 x97 w fun x98=>
 rN 29 3 x98 w fun x99=>
 rB .geq 3 T0 T0 x96 x99 w fun x100=>
 BR x100
 (R (Value.bool false) w)
 (rA (u4 3) (iV 1) w fun x63=>
 next4 [x63] w)))
 (rF 31 x1 3 w fun x92=>
 rL 23 x92 w fun x93=>
 rX 23 x93 (u4 3) w fun x95=>
 rL 3 x95 w fun x96=>
 rF 31 x1 4 w fun x97=>
 rL 29 x97 w fun x98=>
 rN 29 3 x98 w fun x99=>
 rB .geq 3 T0 T0 x96 x99 w fun x100=>
 BR x100
 (R (Value.bool false) w)
 (rA (u4 3) (iV 1) w fun x63=>
 next4 [x63] w))
 (BR undef
 (BR undef
 (R (Value.bool false) w)
 (rF 31 x1 3 w fun x92=>
 rL 23 x92 w fun x93=>
 rX 23 x93 (u4 3) w fun x95=>
 rL 3 x95 w fun x96=>
 rF 31 x1 4 w fun x97=>
 rL 29 x97 w fun x98=>
 rN 29 3 x98 w fun x99=>
 rB .geq 3 T0 T0 x96 x99 w fun x100=>
 BR x100
 (R (Value.bool false) w)
 (rA (u4 3) (iV 1) w fun x63=>
 next4 [x63] w)))
 (rF 31 x1 3 w fun x92=>
 rL 23 x92 w fun x93=>
 rX 23 x93 (u4 3) w fun x95=>
 rL 3 x95 w fun x96=>
 rF 31 x1 4 w fun x97=>
 rL 29 x97 w fun x98=>
 rN 29 3 x98 w fun x99=>
 rB .geq 3 T0 T0 x96 x99 w fun x100=>
 BR x100
 (R (Value.bool false) w)
 (rA (u4 3) (iV 1) w fun x63=>
 next4 [x63] w))))) (World.drew1 w))
 (LOOPI [4] [(iV 0)] w fun u9 w next9=>
 rF 31 x1 4 w fun x103=>
 rL 29 x103 w fun x104=>
 rN 29 3 x104 w fun x105=>
 rC (u9 4) x105 w fun x106=>
 BR x106
 ((fun w=>rF 31 x1 4 w fun x109=>
 rL 29 x109 w fun x110=>
 rX 29 x110 (u9 4) w fun x112=>
 rF 94 x112 0 w fun x113=>
 rL 3 x113 w fun x114=>
 rB .eql 3 T0 U0 x114 (iV 9) w fun x115=>
 rL 31 x1 w fun x116=>
 rL 31 x1 w fun x117=>
 (fun w_=>cL 36 [x117,(u9 4)] w_ fun x119 w=>
 Ext w_ w ∧
 (fun w_=>cL 67 [x116,x119] w_ fun x120 w=>
 Ext w_ w ∧
 rB .eql 3 T0 T0 x120 (u9 4) w fun x122=>
 rB .neq 4 T0 T0 x115 x122 w fun x123=>
 BR x123
 (R (Value.bool false) w)
 (rA (u9 4) (iV 1) w fun x108=>
 next9 [x108] w)) w) w) (World.drew1 w))
 (R (Value.bool true) w)))))))))))
def cfg32:Cfg:=⟨extL,[],[(4,5070602400912773490798736965644,[3]),(9,21267642861956253053543306977672691732,[4])],[(6,[0,1,2,3,4,5,6,7,8,9,10,11,12,13,14,15,16,17,18,19,20,21,22,23,24,25,26,27,28,29,30,31,32,33,34,35,36,37],0),(11,[0,1,2,3,4,5,6,7,8,9,12,10,11,13,14],3072)],[],[],[]⟩
theorem F32_call {a0:Value} {w:World} {R:VW} (h:F32 a0 w R):cL 32 [a0] w R:=co (g:=cfg32) Tryz.func32 (by kernel_rfl) (by kernel_rfl) (by kernel_rfl) h
theorem zmJ {w:World} {v0:Value} {W0:World} {c:DCode}  (h0:Is W0 v0 c) (e0:Ext W0 w)  :
   CALL Tryz.prog 32 [v0] w fun r w'=>Ext w w'∧(r=.bool (decide (NamesR c∧EntS c))):=by
 refine F32_call ?_
 unfold F32
 refine zaD zbt rfl h0 e0 fun w1_ hx1_ hA1 hV1=>?_
 refine zaa zcH ?_
 refine zac zbP (zaZ hA1) (Ext.refl w1_) fun v6 h6=>?_
 refine (zfU h6 (Ext.refl w1_)).mono ?_
 rintro _ w2_ ⟨hx2_,rfl⟩
 refine zaV ?_
 refine zbw (fun c1=>?_) (fun c1=>?_)
 · refine ⟨(hx1_.trans hx2_),?_⟩
   have:¬(NamesR c∧EntS c):=fun h=>by rw [h.1.1] at c1;cases c1
   simp only [this,decide_false]
 refine zaa zcn ?_
 refine zac zbP (zaR hA1) hx2_ fun v11 h11=>?_
 refine (zfU h11 hx2_).mono ?_
 rintro _ w3_ ⟨hx3_,rfl⟩
 refine zaV ?_
 refine zbw (fun c2=>?_) (fun c2=>?_)
 · refine ⟨(hx1_.trans (hx2_.trans hx3_)),?_⟩
   have:¬(NamesR c∧EntS c):=fun h=>by rw [h.1.2.1] at c2;cases c2
   simp only [this,decide_false]
 refine zaa zba ?_
 refine zac zbP (zar hA1) (hx2_.trans hx3_) fun v17 h17=>?_
 refine (zfU h17 (hx2_.trans hx3_)).mono ?_
 rintro _ w4_ ⟨hx4_,rfl⟩
 refine zaV ?_
 refine zbw (fun c3=>?_) (fun c3=>?_)
 · refine ⟨(hx1_.trans (hx2_.trans (hx3_.trans hx4_))),?_⟩
   have:¬(NamesR c∧EntS c):=fun h=>by rw [h.1.2.2.1] at c3;cases c3
   simp only [this,decide_false]
 refine zaa zcH ?_
 refine zac zbP (zaZ hA1) (hx2_.trans (hx3_.trans hx4_)) fun v23 h23=>?_
 refine (zfW h23 (hx2_.trans (hx3_.trans hx4_))).mono ?_
 rintro _ w5_ ⟨hx5_,rfl⟩
 refine br (fun c4=>?_) (fun c4=>?_)
 · refine ⟨(hx1_.trans (hx2_.trans (hx3_.trans (hx4_.trans hx5_)))),?_⟩
   have:¬(NamesR c∧EntS c):=fun h=>c4 h.1.2.2.2.1
   simp only [this,decide_false]
 refine zaa zcn ?_
 refine zac zbP (zaR hA1) (hx2_.trans (hx3_.trans (hx4_.trans hx5_))) fun v28 h28=>?_
 refine (zfW h28 (hx2_.trans (hx3_.trans (hx4_.trans hx5_)))).mono ?_
 rintro _ w6_ ⟨hx6_,rfl⟩
 refine br (fun c5=>?_) (fun c5=>?_)
 · refine ⟨(hx1_.trans (hx2_.trans (hx3_.trans (hx4_.trans (hx5_.trans hx6_))))),?_⟩
   have:¬(NamesR c∧EntS c):=fun h=>c5 h.1.2.2.2.2.1
   simp only [this,decide_false]
 refine zaa zba ?_
 refine zac zbP (zar hA1) (hx2_.trans (hx3_.trans (hx4_.trans (hx5_.trans hx6_)))) fun v33 h33=>?_
 refine (zfW h33 (hx2_.trans (hx3_.trans (hx4_.trans (hx5_.trans hx6_))))).mono ?_
 rintro _ w7_ ⟨hx7_,rfl⟩
 refine br (fun c6=>?_) (fun c6=>?_)
 · refine ⟨(hx1_.trans (hx2_.trans (hx3_.trans (hx4_.trans (hx5_.trans (hx6_.trans hx7_)))))),?_⟩
   have:¬(NamesR c∧EntS c):=fun h=>c6 h.1.2.2.2.2.2.1
   simp only [this,decide_false]
 refine zaa za1 ?_
 refine zac zbE (zap hA1) (hx2_.trans (hx3_.trans (hx4_.trans (hx5_.trans (hx6_.trans hx7_))))) fun v38 h38=>?_
 have hln39:=zam h38
 refine zag u23 h38 ?_
 refine zaa zba ?_
 refine zac zbP (zar hA1) (hx2_.trans (hx3_.trans (hx4_.trans (hx5_.trans (hx6_.trans hx7_))))) fun v41 h41=>?_
 have hln42:=zam h41
 refine zag u22 h41 ?_
 refine zaI ?_
 refine br (fun c7=>?_) (fun c7=>?_)
 · refine ⟨(hx1_.trans (hx2_.trans (hx3_.trans (hx4_.trans (hx5_.trans (hx6_.trans hx7_)))))),?_⟩
   have:¬(NamesR c∧EntS c):=fun h=>c7 (by rw [h.2.1])
   simp only [this,decide_false]
 refine zaa zaJ ?_
 refine zac zct (zai hA1) (hx2_.trans (hx3_.trans (hx4_.trans (hx5_.trans (hx6_.trans hx7_))))) fun v47 h47=>?_
 have hln48:=zam h47
 refine zag u29 h47 ?_
 refine zcQ ?_
 refine br (fun c8=>?_) (fun c8=>?_)
 · refine ⟨(hx1_.trans (hx2_.trans (hx3_.trans (hx4_.trans (hx5_.trans (hx6_.trans hx7_)))))),?_⟩
   have:¬(NamesR c∧EntS c):=fun h=>by have:=h.2.2.1;omega
   simp only [this,decide_false]
 refine zaa zba ?_
 refine zac zbP (zar hA1) (hx2_.trans (hx3_.trans (hx4_.trans (hx5_.trans (hx6_.trans hx7_))))) fun v53 h53=>?_
 refine (zcY h53 (hx2_.trans (hx3_.trans (hx4_.trans (hx5_.trans (hx6_.trans hx7_)))))).mono ?_
 rintro _ w8_ ⟨hx8_,rfl⟩
 refine zah ?_
 refine br (fun c9=>?_) (fun c9=>?_)
 · refine ⟨(hx1_.trans (hx2_.trans (hx3_.trans (hx4_.trans (hx5_.trans (hx6_.trans (hx7_.trans hx8_))))))),?_⟩
   have:¬(NamesR c∧EntS c):=fun h=>by have:=ze2.2 h.1.2.2.2.2.2.2;unfold zja at this;omega
   simp only [this,decide_false]
 refine zaq (c.entry.length) (fun k us w'=>us=[.int .i64 (k:Int)]∧Ext w8_ w'∧(∀ i,i<k→(i=0→en c 0=0)∧(0<i→en c (i-1)<en c i)∧en c i<c.ins.length)) (0) (by omega) ⟨by simp,Ext.refl w8_,fun i h=>by omega⟩ ?_
 rintro k m4 uu4 w9_ hk4 ⟨hu,hx9_,hent⟩
 simp only [List.map_cons,List.map_nil,List.cons.injEq,and_true] at hu
 try rw [hu]
 try clear hu
 refine zaa za1 ?_
 refine zac zbE (zap hA1) (hx2_.trans (hx3_.trans (hx4_.trans (hx5_.trans (hx6_.trans (hx7_.trans (hx8_.trans hx9_))))))) fun v59 h59=>?_
 have hln60:=zam h59
 refine zag u23 h59 ?_
 refine zah ?_
 refine br (fun c10=>?_) (fun c10=>?_)
 · have hx10_:=zak w9_
   refine zao ?_
   refine br (fun c11=>?_) (fun c11=>?_)
   · refine zaa za1 ?_
     refine zac zbE (zap hA1) (hx2_.trans (hx3_.trans (hx4_.trans (hx5_.trans (hx6_.trans (hx7_.trans (hx8_.trans (hx9_.trans hx10_)))))))) fun v68 h68=>?_
     refine zch u23 ty3 h68 (by omega) (by omega) fun b69 o69 h69=>?_
     refine zab ty3 h69 (hx2_.trans (hx3_.trans (hx4_.trans (hx5_.trans (hx6_.trans (hx7_.trans (hx8_.trans (hx9_.trans hx10_)))))))) fun hI70=>?_
     refine zaI ?_
     refine br (fun c12=>?_) (fun c12=>?_)
     · refine ⟨(hx1_.trans (hx2_.trans (hx3_.trans (hx4_.trans (hx5_.trans (hx6_.trans (hx7_.trans (hx8_.trans (hx9_.trans hx10_))))))))),?_⟩
       rw [zbe] at c12
       have:¬(NamesR c∧EntS c):=fun h=>c12 ((h.2.2.2.1 0 (by omega)).1 rfl)
       simp only [this,decide_false]
     refine zcQ ?_
     refine gbr (fun c13=>?_) (fun c13=>?_)
     · refine zaa za1 ?_
       refine zac zbE (zap hA1) (hx2_.trans (hx3_.trans (hx4_.trans (hx5_.trans (hx6_.trans (hx7_.trans (hx8_.trans (hx9_.trans hx10_)))))))) fun v78 h78=>?_
       refine zad u23 ty3 h78 (by omega) fun b80 o80 h80=>?_
       refine zab ty3 h80 (hx2_.trans (hx3_.trans (hx4_.trans (hx5_.trans (hx6_.trans (hx7_.trans (hx8_.trans (hx9_.trans hx10_)))))))) fun hI81=>?_
       refine zaa za1 ?_
       refine zac zbE (zap hA1) (hx2_.trans (hx3_.trans (hx4_.trans (hx5_.trans (hx6_.trans (hx7_.trans (hx8_.trans (hx9_.trans hx10_)))))))) fun v83 h83=>?_
       refine zbf (by unfold I64;omega) ?_
       refine zch u23 ty3 h83 (by omega) (by omega) fun b86 o86 h86=>?_
       refine zab ty3 h86 (hx2_.trans (hx3_.trans (hx4_.trans (hx5_.trans (hx6_.trans (hx7_.trans (hx8_.trans (hx9_.trans hx10_)))))))) fun hI87=>?_
       have hn86:((k:Int)-1).toNat=k-1:=by omega
       refine zdw ?_
       refine br (fun c14=>?_) (fun c14=>?_)
       · refine ⟨(hx1_.trans (hx2_.trans (hx3_.trans (hx4_.trans (hx5_.trans (hx6_.trans (hx7_.trans (hx8_.trans (hx9_.trans hx10_))))))))),?_⟩
         exact absurd c11 (by omega)
       refine zaa za1 ?_
       refine zac zbE (zap hA1) (hx2_.trans (hx3_.trans (hx4_.trans (hx5_.trans (hx6_.trans (hx7_.trans (hx8_.trans (hx9_.trans hx10_)))))))) fun v93 h93=>?_
       refine zad u23 ty3 h93 (by omega) fun b95 o95 h95=>?_
       refine zab ty3 h95 (hx2_.trans (hx3_.trans (hx4_.trans (hx5_.trans (hx6_.trans (hx7_.trans (hx8_.trans (hx9_.trans hx10_)))))))) fun hI96=>?_
       refine zaa zaJ ?_
       refine zac zct (zai hA1) (hx2_.trans (hx3_.trans (hx4_.trans (hx5_.trans (hx6_.trans (hx7_.trans (hx8_.trans (hx9_.trans hx10_)))))))) fun v98 h98=>?_
       have hln99:=zam h98
       refine zag u29 h98 ?_
       refine zb9 ?_
       refine br (fun c15=>?_) (fun c15=>?_)
       · refine ⟨(hx1_.trans (hx2_.trans (hx3_.trans (hx4_.trans (hx5_.trans (hx6_.trans (hx7_.trans (hx8_.trans (hx9_.trans hx10_))))))))),?_⟩
         exact absurd c11 (by omega)
       refine zaf (by omega) ?_
       refine ⟨m4-1,by omega,k+1,by omega,by simp,(hx9_.trans hx10_),?_⟩
       exact absurd c11 (by omega)
     refine zaa za1 ?_
     refine zac zbE (zap hA1) (hx2_.trans (hx3_.trans (hx4_.trans (hx5_.trans (hx6_.trans (hx7_.trans (hx8_.trans (hx9_.trans hx10_)))))))) fun v93 h93=>?_
     refine zad u23 ty3 h93 (by omega) fun b95 o95 h95=>?_
     refine zab ty3 h95 (hx2_.trans (hx3_.trans (hx4_.trans (hx5_.trans (hx6_.trans (hx7_.trans (hx8_.trans (hx9_.trans hx10_)))))))) fun hI96=>?_
     refine zaa zaJ ?_
     refine zac zct (zai hA1) (hx2_.trans (hx3_.trans (hx4_.trans (hx5_.trans (hx6_.trans (hx7_.trans (hx8_.trans (hx9_.trans hx10_)))))))) fun v98 h98=>?_
     have hln99:=zam h98
     refine zag u29 h98 ?_
     refine zb9 ?_
     refine br (fun c16=>?_) (fun c16=>?_)
     · refine ⟨(hx1_.trans (hx2_.trans (hx3_.trans (hx4_.trans (hx5_.trans (hx6_.trans (hx7_.trans (hx8_.trans (hx9_.trans hx10_))))))))),?_⟩
       rw [zbe] at c16
       have:¬(NamesR c∧EntS c):=fun h=>by have:=(h.2.2.2.1 k (by omega)).2.2;omega
       simp only [this,decide_false]
     refine zaf (by omega) ?_
     refine ⟨m4-1,by omega,k+1,by omega,by simp,(hx9_.trans hx10_),?_⟩
     rw [zbe] at c16 c12
     have hk0:k=0:=by omega
     subst hk0
     exact zgr hent ⟨fun _=>Decidable.not_not.1 c12,fun h=>by omega,by omega⟩
   refine zcQ ?_
   refine gbr (fun c17=>?_) (fun c17=>?_)
   · refine zaa za1 ?_
     refine zac zbE (zap hA1) (hx2_.trans (hx3_.trans (hx4_.trans (hx5_.trans (hx6_.trans (hx7_.trans (hx8_.trans (hx9_.trans hx10_)))))))) fun v78 h78=>?_
     refine zad u23 ty3 h78 (by omega) fun b80 o80 h80=>?_
     refine zab ty3 h80 (hx2_.trans (hx3_.trans (hx4_.trans (hx5_.trans (hx6_.trans (hx7_.trans (hx8_.trans (hx9_.trans hx10_)))))))) fun hI81=>?_
     refine zaa za1 ?_
     refine zac zbE (zap hA1) (hx2_.trans (hx3_.trans (hx4_.trans (hx5_.trans (hx6_.trans (hx7_.trans (hx8_.trans (hx9_.trans hx10_)))))))) fun v83 h83=>?_
     refine zbf (by unfold I64;omega) ?_
     refine zch u23 ty3 h83 (by omega) (by omega) fun b86 o86 h86=>?_
     refine zab ty3 h86 (hx2_.trans (hx3_.trans (hx4_.trans (hx5_.trans (hx6_.trans (hx7_.trans (hx8_.trans (hx9_.trans hx10_)))))))) fun hI87=>?_
     have hn86:((k:Int)-1).toNat=k-1:=by omega
     refine zdw ?_
     refine br (fun c18=>?_) (fun c18=>?_)
     · refine ⟨(hx1_.trans (hx2_.trans (hx3_.trans (hx4_.trans (hx5_.trans (hx6_.trans (hx7_.trans (hx8_.trans (hx9_.trans hx10_))))))))),?_⟩
       rw [zbe,zbe] at c18
       simp only [hn86] at c18
       have:¬(NamesR c∧EntS c):=fun h=>by have:=(h.2.2.2.1 k (by omega)).2.1 (by omega);omega
       simp only [this,decide_false]
     refine zaa za1 ?_
     refine zac zbE (zap hA1) (hx2_.trans (hx3_.trans (hx4_.trans (hx5_.trans (hx6_.trans (hx7_.trans (hx8_.trans (hx9_.trans hx10_)))))))) fun v93 h93=>?_
     refine zad u23 ty3 h93 (by omega) fun b95 o95 h95=>?_
     refine zab ty3 h95 (hx2_.trans (hx3_.trans (hx4_.trans (hx5_.trans (hx6_.trans (hx7_.trans (hx8_.trans (hx9_.trans hx10_)))))))) fun hI96=>?_
     refine zaa zaJ ?_
     refine zac zct (zai hA1) (hx2_.trans (hx3_.trans (hx4_.trans (hx5_.trans (hx6_.trans (hx7_.trans (hx8_.trans (hx9_.trans hx10_)))))))) fun v98 h98=>?_
     have hln99:=zam h98
     refine zag u29 h98 ?_
     refine zb9 ?_
     refine br (fun c19=>?_) (fun c19=>?_)
     · refine ⟨(hx1_.trans (hx2_.trans (hx3_.trans (hx4_.trans (hx5_.trans (hx6_.trans (hx7_.trans (hx8_.trans (hx9_.trans hx10_))))))))),?_⟩
       rw [zbe] at c19
       have:¬(NamesR c∧EntS c):=fun h=>by have:=(h.2.2.2.1 k (by omega)).2.2;omega
       simp only [this,decide_false]
     refine zaf (by omega) ?_
     refine ⟨m4-1,by omega,k+1,by omega,by simp,(hx9_.trans hx10_),?_⟩
     rw [zbe] at c19
     rw [zbe,zbe] at c18
     simp only [hn86] at c18
     exact zgr hent ⟨fun h=>by omega,fun _=>by omega,by omega⟩
   refine zaa za1 ?_
   refine zac zbE (zap hA1) (hx2_.trans (hx3_.trans (hx4_.trans (hx5_.trans (hx6_.trans (hx7_.trans (hx8_.trans (hx9_.trans hx10_)))))))) fun v93 h93=>?_
   refine zad u23 ty3 h93 (by omega) fun b95 o95 h95=>?_
   refine zab ty3 h95 (hx2_.trans (hx3_.trans (hx4_.trans (hx5_.trans (hx6_.trans (hx7_.trans (hx8_.trans (hx9_.trans hx10_)))))))) fun hI96=>?_
   refine zaa zaJ ?_
   refine zac zct (zai hA1) (hx2_.trans (hx3_.trans (hx4_.trans (hx5_.trans (hx6_.trans (hx7_.trans (hx8_.trans (hx9_.trans hx10_)))))))) fun v98 h98=>?_
   have hln99:=zam h98
   refine zag u29 h98 ?_
   refine zb9 ?_
   refine br (fun c20=>?_) (fun c20=>?_)
   · refine ⟨(hx1_.trans (hx2_.trans (hx3_.trans (hx4_.trans (hx5_.trans (hx6_.trans (hx7_.trans (hx8_.trans (hx9_.trans hx10_))))))))),?_⟩
     exact absurd c11 (by omega)
   refine zaf (by omega) ?_
   refine ⟨m4-1,by omega,k+1,by omega,by simp,(hx9_.trans hx10_),?_⟩
   exact absurd c11 (by omega)
 refine zaq (c.ins.length) (fun k us w'=>us=[.int .i64 (k:Int)]∧Ext w9_ w'∧(∀ j,j<k→((zal c j).op=9↔zeB c (zat c j)=j))) (0) (by omega) ⟨by simp,Ext.refl w9_,fun i h=>by omega⟩ ?_
 rintro k m9 uu9 w11_ hk9 ⟨hu,hx11_,hinv⟩
 simp only [List.map_cons,List.map_nil,List.cons.injEq,and_true] at hu
 try rw [hu]
 try clear hu
 refine zaa zaJ ?_
 refine zac zct (zai hA1) (hx2_.trans (hx3_.trans (hx4_.trans (hx5_.trans (hx6_.trans (hx7_.trans (hx8_.trans (hx9_.trans hx11_)))))))) fun v104 h104=>?_
 have hln105:=zam h104
 refine zag u29 h104 ?_
 refine zah ?_
 refine br (fun c21=>?_) (fun c21=>?_)
 · have hx12_:=zak w11_
   refine zaa zaJ ?_
   refine zac zct (zai hA1) (hx2_.trans (hx3_.trans (hx4_.trans (hx5_.trans (hx6_.trans (hx7_.trans (hx8_.trans (hx9_.trans (hx11_.trans hx12_))))))))) fun v110 h110=>?_
   refine zad u29 zcb h110 (by omega) fun b112 o112 h112=>?_
   refine zaa za6 ?_
   refine zab ty3 (zas h112) (hx2_.trans (hx3_.trans (hx4_.trans (hx5_.trans (hx6_.trans (hx7_.trans (hx8_.trans (hx9_.trans (hx11_.trans hx12_))))))))) fun hI114=>?_
   refine zao ?_
   refine zbC hV1 (hx2_.trans (hx3_.trans (hx4_.trans (hx5_.trans (hx6_.trans (hx7_.trans (hx8_.trans (hx9_.trans (hx11_.trans hx12_))))))))) ?_
   refine zbC hV1 (hx2_.trans (hx3_.trans (hx4_.trans (hx5_.trans (hx6_.trans (hx7_.trans (hx8_.trans (hx9_.trans (hx11_.trans hx12_))))))))) ?_
   have h8:c.entry.length≤8:=by
     simp only [Bool.not_eq_false',Bool.and_eq_true,decide_eq_true_eq] at c3
     have:=c3.1
     omega
   refine (zea h0 (e0.trans (hx1_.trans (hx2_.trans (hx3_.trans (hx4_.trans (hx5_.trans (hx6_.trans (hx7_.trans (hx8_.trans (hx9_.trans (hx11_.trans hx12_)))))))))))).mono ?_
   rintro _ w13_ ⟨hx13_,rfl⟩
   refine ⟨hx13_,?_⟩
   refine (zdE h0 (e0.trans (hx1_.trans (hx2_.trans (hx3_.trans (hx4_.trans (hx5_.trans (hx6_.trans (hx7_.trans (hx8_.trans (hx9_.trans (hx11_.trans (hx12_.trans hx13_)))))))))))) (by have:=zgq (c:=c) (a:=k);omega) (by have:=zgq (c:=c) (a:=k);omega) (zgR fun i hi=>hent i (by omega))).mono ?_
   rintro _ w14_ ⟨hx14_,rfl⟩
   refine ⟨hx14_,?_⟩
   refine zao ?_
   refine ztQ u4 ?_
   refine br (fun c22=>?_) (fun c22=>?_)
   · refine ⟨(hx1_.trans (hx2_.trans (hx3_.trans (hx4_.trans (hx5_.trans (hx6_.trans (hx7_.trans (hx8_.trans (hx9_.trans (hx11_.trans (hx12_.trans (hx13_.trans hx14_)))))))))))),?_⟩
     rw [zaF] at c22
     have:¬(NamesR c∧EntS c):=fun h=>c22 (decide_eq_decide.2 (h.2.2.2.2 k (by omega)))
     simp only [this,decide_false]
   refine zaf (by omega) ?_
   refine ⟨m9-1,by omega,k+1,by omega,by simp,(hx11_.trans (hx12_.trans (hx13_.trans hx14_))),?_⟩
   rw [zaF] at c22
   exact zgr hinv (decide_eq_decide.1 (Decidable.not_not.1 c22))
 refine ⟨(hx1_.trans (hx2_.trans (hx3_.trans (hx4_.trans (hx5_.trans (hx6_.trans (hx7_.trans (hx8_.trans (hx9_.trans hx11_))))))))),?_⟩
 have:NamesR c∧EntS c:=by
   refine ⟨⟨by simpa using c1,by simpa using c2,by simpa using c3,Decidable.not_not.1 c4,Decidable.not_not.1 c5,Decidable.not_not.1 c6,ze2.1 (by unfold zja;omega)⟩,by omega,by omega,fun i hi=>hent i (by omega),fun j hj=>hinv j (by omega)⟩
 simp only [this,and_self,decide_true]
def zb7 (c:DCode) (op:Int):Int:=if op=1 then c.globals.length else if op=4∨op=5 then c.procs.length else if op=6∨op=7 then c.locks.length else 1
def zfX (c:DCode) (a:DIns) (b e:Int):Prop:=(1≤a.op∧a.op≤9)∧(0≤a.arg∧a.arg<zb7 c a.op) ∧
 (if a.op=1∨a.op=2 then zbD 6 a.term=true∧(∀ s∈zbT a.term,s∈c.globals) else a.term=term0)∧(if a.op=2∨a.op=3 then b≤a.to∧a.to<e else a.to=0)
instance (c:DCode) (a:DIns) (b e:Int):Decidable (zfX c a b e):=by unfold zfX;infer_instance
def F33 (a0 a1:Value) (w:World) (R:VW):Prop:=
 oP (Instr.box 31 a0) w fun x2 w=>
 rF 31 x2 4 w fun x10=>
 rL 29 x10 w fun x11=>
 rX 29 x11 a1 w fun x13=>
 rL 94 x13 w fun x14=>
 oP (Instr.alloc 94 true (.tuple #[])) w fun x5 w=>
 oS 94 x5 x14 w fun w=>
 JOIN [6] (fun J12=>
 rF 94 x5 0 w fun x15=>
 rL 3 x15 w fun x16=>
 rB .eql 3 T0 U0 x16 (iV 1) w fun x18=>
 BR x18
 (rF 31 x2 0 w fun x19=>
 rL 22 x19 w fun x20=>
 rN 22 3 x20 w fun x21=>
 rB .sub 3 T0 U0 x21 (iV 1) w fun x22=>
 J12 [x22] w)
 (rB .eql 3 T0 U0 x16 (iV 6) w fun x24=>
 BR x24
 (rF 31 x2 1 w fun x26=>
 rL 22 x26 w fun x27=>
 rN 22 3 x27 w fun x28=>
 rB .sub 3 T0 U0 x28 (iV 1) w fun x29=>
 J12 [x29] w)
 (rB .eql 3 T0 U0 x16 (iV 7) w fun x25=>
 BR x25
 (rF 31 x2 1 w fun x26=>
 rL 22 x26 w fun x27=>
 rN 22 3 x27 w fun x28=>
 rB .sub 3 T0 U0 x28 (iV 1) w fun x29=>
 J12 [x29] w)
 (rB .eql 3 T0 U0 x16 (iV 4) w fun x31=>
 BR x31
 (rF 31 x2 2 w fun x33=>
 rL 22 x33 w fun x34=>
 rN 22 3 x34 w fun x35=>
 rB .sub 3 T0 U0 x35 (iV 1) w fun x36=>
 J12 [x36] w)
 (rB .eql 3 T0 U0 x16 (iV 5) w fun x32=>
 BR x32
 (rF 31 x2 2 w fun x33=>
 rL 22 x33 w fun x34=>
 rN 22 3 x34 w fun x35=>
 rB .sub 3 T0 U0 x35 (iV 1) w fun x36=>
 J12 [x36] w)
 (J12 [(iV 0)] w)))))) (fun u12 w=>
 rF 94 x5 0 w fun x37=>
 rL 3 x37 w fun x38=>
 cL 38 [x38,(iV 1),(iV 9)] w fun x39 w=>
 rD (Op.unary .not x39) w fun x40=>
 BR x40
 (R (Value.bool false) w)
 (rF 94 x5 1 w fun x42=>
 rL 3 x42 w fun x43=>
 cL 38 [x43,(iV 0),(u12 6)] w fun x45 w=>
 rD (Op.unary .not x45) w fun x46=>
 BR x46
 (R (Value.bool false) w)
 (JOIN [] (fun J25=>
 rF 94 x5 0 w fun x48=>
 rL 3 x48 w fun x49=>
 rB .eql 3 T0 U0 x49 (iV 1) w fun x50=>
 BR x50
 (rF 94 x5 2 w fun x56=>
 rL 92 x56 w fun x57=>
 cL 68 [x57] w fun x58 w=>
 rD (Op.unary .not x58) w fun x59=>
 BR x59
 (R (Value.bool false) w)
 (rF 94 x5 2 w fun x60=>
 rL 92 x60 w fun x61=>
 cL 69 [x61] w fun x62 w=>
 LOOPI [8] [(iV 0)] w fun u19 w next19=>
 rN 22 3 x62 w fun x65=>
 rC (u19 8) x65 w fun x66=>
 BR x66
 ((fun w=>rF 31 x2 0 w fun x69=>
 rL 22 x69 w fun x70=>
 rX 22 x62 (u19 8) w fun x73=>
 rL 9 x73 w fun x74=>
 cL 66 [x70,x74] w fun x75 w=>
 rB .lss 3 T0 U0 x75 (iV 0) w fun x76=>
 BR x76
 (R (Value.bool false) w)
 (rA (u19 8) (iV 1) w fun x68=>
 next19 [x68] w)) (World.drew1 w))
 (J25 [] w)))
 (rF 94 x5 0 w fun x52=>
 rL 3 x52 w fun x53=>
 rB .eql 3 T0 U0 x53 (iV 2) w fun x54=>
 BR x54
 (rF 94 x5 2 w fun x56=>
 rL 92 x56 w fun x57=>
 cL 68 [x57] w fun x58 w=>
 rD (Op.unary .not x58) w fun x59=>
 BR x59
 (R (Value.bool false) w)
 (rF 94 x5 2 w fun x60=>
 rL 92 x60 w fun x61=>
 cL 69 [x61] w fun x62 w=>
 LOOPI [8] [(iV 0)] w fun u19 w next19=>
 rN 22 3 x62 w fun x65=>
 rC (u19 8) x65 w fun x66=>
 BR x66
 ((fun w=>rF 31 x2 0 w fun x69=>
 rL 22 x69 w fun x70=>
 rX 22 x62 (u19 8) w fun x73=>
 rL 9 x73 w fun x74=>
 cL 66 [x70,x74] w fun x75 w=>
 rB .lss 3 T0 U0 x75 (iV 0) w fun x76=>
 BR x76
 (R (Value.bool false) w)
 (rA (u19 8) (iV 1) w fun x68=>
 next19 [x68] w)) (World.drew1 w))
 (J25 [] w)))
 (rF 94 x5 2 w fun x77=>
 rL 92 x77 w fun x78=>
 rD (Instr.build 92 #[]) w fun x79=>
 cL 70 [x78,x79] w fun x80 w=>
 rD (Op.unary .not x80) w fun x81=>
 BR x81
 (R (Value.bool false) w)
 (J25 [] w)))) (fun u25 w=>
 JOIN [] (fun J27=>
 rF 94 x5 0 w fun x82=>
 rL 3 x82 w fun x83=>
 rB .neq 3 T0 U0 x83 (iV 2) w fun x84=>
 BR x84
 (rF 94 x5 0 w fun x86=>
 rL 3 x86 w fun x87=>
 rB .neq 3 T0 U0 x87 (iV 3) w fun x88=>
 BR x88
 (rF 94 x5 3 w fun x90=>
 rL 3 x90 w fun x91=>
 rB .eql 3 T0 U0 x91 (iV 0) w fun x92=>
 R x92 w)
 (J27 [] w))
 (J27 [] w)) (fun u27 w=>
 rL 31 x2 w fun x93=>
 cL 36 [x93,a1] w fun x95 w=>
 (fun w=>rF 94 x5 3 w fun x96=>
 rL 3 x96 w fun x97=>
 rF 31 x2 3 w fun x98=>
 rL 23 x98 w fun x99=>
 rX 23 x99 x95 w fun x101=>
 rL 3 x101 w fun x102=>
 rL 31 x2 w fun x103=>
 (fun w_=>cL 67 [x103,x95] w_ fun x105 w=>
 Ext w_ w ∧
 cL 38 [x97,x102,x105] w fun x106 w=>
 R x106 w) w) (World.drew1 w))))))
def cfg33:Cfg:=⟨extL,[(12,137438920768,[6]),(25,4835703278177041722114448,[]),(27,9898684611004583682494169104,[])],[(19,151106504079791792062736,[8])],[(21,[0,1,2,3,4,5,6,7],0),(28,[0,1,2,3,4,5,6,7,8,9,10,11],512)],[],[],[]⟩
theorem F33_call {a0 a1:Value} {w:World} {R:VW} (h:F33 a0 a1 w R):cL 33 [a0,a1] w R:=co (g:=cfg33) Tryz.func33 (by kernel_rfl) (by kernel_rfl) (by kernel_rfl) h
theorem zqa {w:World} {v0:Value} {W0:World} {c:DCode} {j:Nat}  (h0:Is W0 v0 c) (e0:Ext W0 w) (hj:j<c.ins.length) (hE:∀ i,i<c.entry.length→0≤en c i) (h8:c.entry.length≤8) (hp:0≤zat c j) :
   CALL Tryz.prog 33 [v0,.int .i64 (j:Int)] w fun r w'=>Ext w w'∧(r=.bool (decide (zfX c (zal c j) (en c (zat c j).toNat) (zeB c (zat c j)+1)))):=by
 refine F33_call ?_
 unfold F33
 have hpl:=zgq (c:=c) (a:=j)
 refine zaD zbt rfl h0 e0 fun w1_ hx1_ hA2 hV2=>?_
 refine zaa zaJ ?_
 refine zac zct (zai hA2) (Ext.refl w1_) fun v11 h11=>?_
 refine zad u29 zcb h11 (by omega) fun b13 o13 h13=>?_
 refine zac zcb h13 (Ext.refl w1_) fun v14 h14=>?_
 rw [zaF] at h14
 obtain ⟨a,ha⟩:∃ a,a=zal c j:=⟨_,rfl⟩
 rw [←ha] at h14 ⊢
 refine zbX zmj rfl zcb rfl h14 (Ext.refl w1_) fun w2_ hx2_ hA5 hV5=>?_
 refine JOIN.mk (fun us w'=>us=[.int .i64 (zb7 c a.op-1)]∧Ext w2_ w'∧(True)) ?_ ?_
 · refine zaa za6 ?_
   refine zab ty3 (zas hA5) (Ext.refl w2_) fun hI16=>?_
   refine zao ?_
   refine br (fun c1=>?_) (fun c1=>?_)
   · refine zaa zcH ?_
     refine zac zbP (zaZ hA2) hx2_ fun v20 h20=>?_
     have hln21:=zam h20
     refine zag u22 h20 ?_
     refine zbf (by unfold I64;have:=zam h20;omega) ?_
     refine ⟨by unfold zb7;rw [if_pos c1],Ext.refl w2_,?_⟩
     trivial
   refine zao ?_
   refine br (fun c2=>?_) (fun c2=>?_)
   · refine zaa zcn ?_
     refine zac zbP (zaR hA2) hx2_ fun v27 h27=>?_
     have hln28:=zam h27
     refine zag u22 h27 ?_
     refine zbf (by unfold I64;have:=zam h27;omega) ?_
     refine ⟨by unfold zb7;rw [if_neg (by omega),if_neg (by omega),if_pos (by omega)],Ext.refl w2_,?_⟩
     trivial
   refine zao ?_
   refine br (fun c3=>?_) (fun c3=>?_)
   · refine zaa zcn ?_
     refine zac zbP (zaR hA2) hx2_ fun v27 h27=>?_
     have hln28:=zam h27
     refine zag u22 h27 ?_
     refine zbf (by unfold I64;have:=zam h27;omega) ?_
     refine ⟨by unfold zb7;rw [if_neg (by omega),if_neg (by omega),if_pos (by omega)],Ext.refl w2_,?_⟩
     trivial
   refine zao ?_
   refine br (fun c4=>?_) (fun c4=>?_)
   · refine zaa zba ?_
     refine zac zbP (zar hA2) hx2_ fun v34 h34=>?_
     have hln35:=zam h34
     refine zag u22 h34 ?_
     refine zbf (by unfold I64;have:=zam h34;omega) ?_
     refine ⟨by unfold zb7;rw [if_neg (by omega),if_pos (by omega)],Ext.refl w2_,?_⟩
     trivial
   refine zao ?_
   refine br (fun c5=>?_) (fun c5=>?_)
   · refine zaa zba ?_
     refine zac zbP (zar hA2) hx2_ fun v34 h34=>?_
     have hln35:=zam h34
     refine zag u22 h34 ?_
     refine zbf (by unfold I64;have:=zam h34;omega) ?_
     refine ⟨by unfold zb7;rw [if_neg (by omega),if_pos (by omega)],Ext.refl w2_,?_⟩
     trivial
   refine ⟨by unfold zb7;rw [if_neg (by omega),if_neg (by omega),if_neg (by omega)];rfl,Ext.refl w2_,?_⟩
   trivial
 rintro uj12 w3_ ⟨hu,hx3_,hinv⟩
 simp only [List.map_cons,List.map_nil,List.cons.injEq,and_true] at hu
 try rw [hu]
 try clear hu
 refine zaa za6 ?_
 refine zab ty3 (zas hA5) hx3_ fun hI38=>?_
 refine (l01In_ok ).mono ?_
 rintro _ w4_ ⟨hx4_,rfl⟩
 refine zaz ?_
 refine br (fun c6=>?_) (fun c6=>?_)
 · refine ⟨(hx1_.trans (hx2_.trans (hx3_.trans hx4_))),?_⟩
   have:¬zfX c a (en c (zat c j).toNat) (zeB c (zat c j)+1):=fun h=>c6 h.1
   simp only [this,decide_false]
 refine zaa za7 ?_
 refine zab ty3 (zav hA5) (hx3_.trans hx4_) fun hI43=>?_
 refine (l01In_ok ).mono ?_
 rintro _ w5_ ⟨hx5_,rfl⟩
 refine zaz ?_
 refine br (fun c7=>?_) (fun c7=>?_)
 · refine ⟨(hx1_.trans (hx2_.trans (hx3_.trans (hx4_.trans hx5_)))),?_⟩
   have:¬zfX c a (en c (zat c j).toNat) (zeB c (zat c j)+1):=fun h=>c7 (by have:=h.2.1;omega)
   simp only [this,decide_false]
 refine JOIN.mk (fun us w'=>us=[]∧Ext w5_ w'∧(if a.op=1∨a.op=2 then zbD 6 a.term=true∧(∀ s∈zbT a.term,s∈c.globals) else a.term=term0)) ?_ ?_
 · refine zaa za6 ?_
   refine zab ty3 (zas hA5) (hx3_.trans (hx4_.trans hx5_)) fun hI49=>?_
   refine zao ?_
   refine br (fun c8=>?_) (fun c8=>?_)
   · refine zaa zdB ?_
     refine zac zdu (zbu hA5) (hx3_.trans (hx4_.trans hx5_)) fun v57 h57=>?_
     refine (zeA h57 (hx3_.trans (hx4_.trans hx5_))).mono ?_
     rintro _ w7_ ⟨hx7_,rfl⟩
     refine zaV ?_
     refine zbw (fun c9=>?_) (fun c9=>?_)
     · refine ⟨(hx1_.trans (hx2_.trans (hx3_.trans (hx4_.trans (hx5_.trans hx7_))))),?_⟩
       have:¬zfX c a (en c (zat c j).toNat) (zeB c (zat c j)+1):=fun h=>by have:=h.2.2.1;rw [if_pos (.inl c8)] at this;rw [this.1] at c9;cases c9
       simp only [this,decide_false]
     refine zaa zdB ?_
     refine zac zdu (zbu hA5) (hx3_.trans (hx4_.trans (hx5_.trans hx7_))) fun v61 h61=>?_
     refine (zd2 h61 (hx3_.trans (hx4_.trans (hx5_.trans hx7_)))).mono ?_
     rintro r62 w8_ ⟨hx8_,h62⟩
     refine zaq ((zbT a.term).length) (fun k us w'=>us=[.int .i64 (k:Int)]∧Ext w8_ w'∧(∀ s∈(zbT a.term).take k,s∈c.globals)) (0) (by omega) ⟨by simp,Ext.refl w8_,by simp⟩ ?_
     rintro k m19 uu19 w9_ hk19 ⟨hu,hx9_,hinv⟩
     simp only [List.map_cons,List.map_nil,List.cons.injEq,and_true] at hu
     try rw [hu]
     try clear hu
     have hln65:=zam h62
     refine zag u22 h62 ?_
     refine zah ?_
     refine br (fun c10=>?_) (fun c10=>?_)
     · have hx10_:=zak w9_
       refine zaa zcH ?_
       refine zac zbP (zaZ hA2) (hx2_.trans (hx3_.trans (hx4_.trans (hx5_.trans (hx7_.trans (hx8_.trans (hx9_.trans hx10_))))))) fun v70 h70=>?_
       refine zad u22 ty9 h62 (by omega) fun b73 o73 h73=>?_
       refine zaH ty9 h73 (hx9_.trans hx10_) fun hS74=>?_
       refine (zcY h70 (hx2_.trans (hx3_.trans (hx4_.trans (hx5_.trans (hx7_.trans (hx8_.trans (hx9_.trans hx10_)))))))).mono ?_
       rintro _ w11_ ⟨hx11_,rfl⟩
       refine zah ?_
       refine br (fun c11=>?_) (fun c11=>?_)
       · refine ⟨(hx1_.trans (hx2_.trans (hx3_.trans (hx4_.trans (hx5_.trans (hx7_.trans (hx8_.trans (hx9_.trans (hx10_.trans hx11_))))))))),?_⟩
         have:¬zfX c a (en c (zat c j).toNat) (zeB c (zat c j)+1):=fun h=>by
           have:=h.2.2.1;rw [if_pos (.inl c8)] at this
           have:=ze2.2 (this.2 _ (List.getElem_mem (n:=k) (by omega)));omega
         simp only [this,decide_false]
       refine zaf (by omega) ?_
       refine ⟨m19-1,by omega,k+1,by omega,by simp,(hx9_.trans (hx10_.trans hx11_)),?_⟩
       intro s hs
       rw [List.take_succ_eq_append_getElem (by omega)] at hs
       rcases List.mem_append.1 hs with hs | hs
       · exact hinv s hs
       simp only [List.mem_cons,List.not_mem_nil,or_false] at hs
       subst hs
       exact ze2.1 (by omega)
     refine ⟨by simp,(hx7_.trans (hx8_.trans hx9_)),?_⟩
     rw [if_pos (.inl c8)]
     rw [List.take_of_length_le (by omega)] at hinv
     exact ⟨by simpa using c9,hinv⟩
   refine zaa za6 ?_
   refine zab ty3 (zas hA5) (hx3_.trans (hx4_.trans hx5_)) fun hI53=>?_
   refine zao ?_
   refine br (fun c12=>?_) (fun c12=>?_)
   · refine zaa zdB ?_
     refine zac zdu (zbu hA5) (hx3_.trans (hx4_.trans hx5_)) fun v57 h57=>?_
     refine (zeA h57 (hx3_.trans (hx4_.trans hx5_))).mono ?_
     rintro _ w12_ ⟨hx12_,rfl⟩
     refine zaV ?_
     refine zbw (fun c13=>?_) (fun c13=>?_)
     · refine ⟨(hx1_.trans (hx2_.trans (hx3_.trans (hx4_.trans (hx5_.trans hx12_))))),?_⟩
       have:¬zfX c a (en c (zat c j).toNat) (zeB c (zat c j)+1):=fun h=>by have:=h.2.2.1;rw [if_pos (.inr c12)] at this;rw [this.1] at c13;cases c13
       simp only [this,decide_false]
     refine zaa zdB ?_
     refine zac zdu (zbu hA5) (hx3_.trans (hx4_.trans (hx5_.trans hx12_))) fun v61 h61=>?_
     refine (zd2 h61 (hx3_.trans (hx4_.trans (hx5_.trans hx12_)))).mono ?_
     rintro r62 w13_ ⟨hx13_,h62⟩
     refine zaq ((zbT a.term).length) (fun k us w'=>us=[.int .i64 (k:Int)]∧Ext w13_ w'∧(∀ s∈(zbT a.term).take k,s∈c.globals)) (0) (by omega) ⟨by simp,Ext.refl w13_,by simp⟩ ?_
     rintro k m19 uu19 w14_ hk19 ⟨hu,hx14_,hinv⟩
     simp only [List.map_cons,List.map_nil,List.cons.injEq,and_true] at hu
     try rw [hu]
     try clear hu
     have hln65:=zam h62
     refine zag u22 h62 ?_
     refine zah ?_
     refine br (fun c14=>?_) (fun c14=>?_)
     · have hx15_:=zak w14_
       refine zaa zcH ?_
       refine zac zbP (zaZ hA2) (hx2_.trans (hx3_.trans (hx4_.trans (hx5_.trans (hx12_.trans (hx13_.trans (hx14_.trans hx15_))))))) fun v70 h70=>?_
       refine zad u22 ty9 h62 (by omega) fun b73 o73 h73=>?_
       refine zaH ty9 h73 (hx14_.trans hx15_) fun hS74=>?_
       refine (zcY h70 (hx2_.trans (hx3_.trans (hx4_.trans (hx5_.trans (hx12_.trans (hx13_.trans (hx14_.trans hx15_)))))))).mono ?_
       rintro _ w16_ ⟨hx16_,rfl⟩
       refine zah ?_
       refine br (fun c15=>?_) (fun c15=>?_)
       · refine ⟨(hx1_.trans (hx2_.trans (hx3_.trans (hx4_.trans (hx5_.trans (hx12_.trans (hx13_.trans (hx14_.trans (hx15_.trans hx16_))))))))),?_⟩
         have:¬zfX c a (en c (zat c j).toNat) (zeB c (zat c j)+1):=fun h=>by
           have:=h.2.2.1;rw [if_pos (.inr c12)] at this
           have:=ze2.2 (this.2 _ (List.getElem_mem (n:=k) (by omega)));omega
         simp only [this,decide_false]
       refine zaf (by omega) ?_
       refine ⟨m19-1,by omega,k+1,by omega,by simp,(hx14_.trans (hx15_.trans hx16_)),?_⟩
       intro s hs
       rw [List.take_succ_eq_append_getElem (by omega)] at hs
       rcases List.mem_append.1 hs with hs | hs
       · exact hinv s hs
       simp only [List.mem_cons,List.not_mem_nil,or_false] at hs
       subst hs
       exact ze2.1 (by omega)
     refine ⟨by simp,(hx12_.trans (hx13_.trans hx14_)),?_⟩
     rw [if_pos (.inr c12)]
     rw [List.take_of_length_le (by omega)] at hinv
     exact ⟨by simpa using c13,hinv⟩
   refine zaa zdB ?_
   refine zac zdu (zbu hA5) (hx3_.trans (hx4_.trans hx5_)) fun v78 h78=>?_
   refine zpF (α:=DTerm) zv2 zuX (by kernel_rfl) rfl fun v79 h79=>?_
   refine (zlo h78 (hx3_.trans (hx4_.trans hx5_)) h79 (Ext.refl w5_) rfl).mono ?_
   rintro _ w17_ ⟨hx17_,rfl⟩
   refine zaz ?_
   refine br (fun c16=>?_) (fun c16=>?_)
   · refine ⟨(hx1_.trans (hx2_.trans (hx3_.trans (hx4_.trans (hx5_.trans hx17_))))),?_⟩
     have:¬zfX c a (en c (zat c j).toNat) (zeB c (zat c j)+1):=fun h=>by have:=h.2.2.1;rw [if_neg (by omega)] at this;exact c16 this
     simp only [this,decide_false]
   refine ⟨by simp,hx17_,?_⟩
   rw [if_neg (by omega)]
   exact Decidable.not_not.1 c16
 rintro uj25 w6_ ⟨hu,hx17_,hT⟩
 simp only [List.map_cons,List.map_nil,List.cons.injEq,and_true] at hu
 clear hu
 refine JOIN.mk (fun us w'=>us=[]∧Ext w6_ w'∧(a.op=2∨a.op=3)) ?_ ?_
 · refine zaa za6 ?_
   refine zab ty3 (zas hA5) (hx3_.trans (hx4_.trans (hx5_.trans hx17_))) fun hI83=>?_
   refine zaI ?_
   refine br (fun c17=>?_) (fun c17=>?_)
   · refine zaa za6 ?_
     refine zab ty3 (zas hA5) (hx3_.trans (hx4_.trans (hx5_.trans hx17_))) fun hI87=>?_
     refine zaI ?_
     refine br (fun c18=>?_) (fun c18=>?_)
     · refine zaa zdg ?_
       refine zab ty3 (zbv hA5) (hx3_.trans (hx4_.trans (hx5_.trans hx17_))) fun hI91=>?_
       refine zao ?_
       refine ⟨(hx1_.trans (hx2_.trans (hx3_.trans (hx4_.trans (hx5_.trans hx17_))))),?_⟩
       congr 1
       rw [decide_eq_decide]
       constructor
       · exact fun h=>⟨Decidable.not_not.1 c6,by omega,hT,by rw [if_neg (by omega)];exact h⟩
       intro h;have:=h.2.2.2;rw [if_neg (by omega)] at this;exact this
     refine ⟨by simp,Ext.refl w6_,?_⟩
     omega
   refine ⟨by simp,Ext.refl w6_,?_⟩
   omega
 rintro uj27 w18_ ⟨hu,hx18_,hop⟩
 simp only [List.map_cons,List.map_nil,List.cons.injEq,and_true] at hu
 clear hu
 refine zbC hV2 (hx2_.trans (hx3_.trans (hx4_.trans (hx5_.trans (hx17_.trans hx18_))))) ?_
 refine (zea h0 (e0.trans (hx1_.trans (hx2_.trans (hx3_.trans (hx4_.trans (hx5_.trans (hx17_.trans hx18_)))))))).mono ?_
 rintro _ w19_ ⟨hx19_,rfl⟩
 have hx20_:=zak w19_
 refine zaa zdg ?_
 refine zab ty3 (zbv hA5) (hx3_.trans (hx4_.trans (hx5_.trans (hx17_.trans (hx18_.trans (hx19_.trans hx20_)))))) fun hI97=>?_
 refine zaa za1 ?_
 refine zac zbE (zap hA2) (hx2_.trans (hx3_.trans (hx4_.trans (hx5_.trans (hx17_.trans (hx18_.trans (hx19_.trans hx20_))))))) fun v99 h99=>?_
 refine zch u23 ty3 h99 (by omega) (by omega) fun b101 o101 h101=>?_
 refine zab ty3 h101 (hx2_.trans (hx3_.trans (hx4_.trans (hx5_.trans (hx17_.trans (hx18_.trans (hx19_.trans hx20_))))))) fun hI102=>?_
 refine zbC hV2 (hx2_.trans (hx3_.trans (hx4_.trans (hx5_.trans (hx17_.trans (hx18_.trans (hx19_.trans hx20_))))))) ?_
 refine (zdE h0 (e0.trans (hx1_.trans (hx2_.trans (hx3_.trans (hx4_.trans (hx5_.trans (hx17_.trans (hx18_.trans (hx19_.trans hx20_))))))))) (by omega) (by omega) (by assumption)).mono ?_
 rintro _ w21_ ⟨hx21_,rfl⟩
 refine ⟨hx21_,?_⟩
 refine (l01In_ok ).mono ?_
 rintro _ w22_ ⟨hx22_,rfl⟩
 refine ⟨(hx1_.trans (hx2_.trans (hx3_.trans (hx4_.trans (hx5_.trans (hx17_.trans (hx18_.trans (hx19_.trans (hx20_.trans (hx21_.trans hx22_)))))))))),?_⟩
 congr 1
 rw [decide_eq_decide,zbe]
 constructor
 · exact fun h=>⟨Decidable.not_not.1 c6,by omega,hT,by rw [if_pos hop];omega⟩
 intro h;have:=h.2.2.2;rw [if_pos hop] at this;omega
def CodeR (c:DCode):Prop:=NamesR c∧EntS c∧∀ j,j<c.ins.length→zfX c (zal c j) (en c (zat c j).toNat) (zeB c (zat c j)+1)
instance (c:DCode):Decidable (CodeR c):=by unfold CodeR;infer_instance
theorem EntS.nonneg {c:DCode} (h:EntS c):∀ i,i<c.entry.length→0≤en c i:=zgR h.2.2.1
theorem NamesR.procs8 {c:DCode} (h:NamesR c):c.procs.length≤8∧0<c.procs.length:=by
 have h1:=h.2.2.1
 simp only [Bool.and_eq_true,decide_eq_true_eq] at h1
 have h2:=List.length_pos_of_mem h.2.2.2.2.2.2
 omega
theorem zgS {c:DCode} {a:Int} (h0:en c 0≤a):∀ {n:Nat},0<n→0≤prc c a n
 | 1,_=>by rw [prc,if_pos h0];omega
 | n+2,_=>by
   rw [prc]
   split
   · omega
   exact zgS h0 (by omega)
theorem zkh {c:DCode} (hn:NamesR c) (h:EntS c) {a:Int} (ha:0≤a):0≤zat c a:=by
 have h1:=hn.procs8
 have h2:=h.1
 exact zgS (by have:=(h.2.2.1 0 (by omega)).1 rfl;omega) (by omega)
def F12 (a0:Value) (w:World) (R:VW):Prop:=
 oP (Instr.box 31 a0) w fun x1 w=>
 rL 31 x1 w fun x4=>
 cL 32 [x4] w fun x5 w=>
 rD (Op.unary .not x5) w fun x6=>
 BR x6
 (R (Value.bool false) w)
 (LOOPI [3] [(iV 0)] w fun u4 w next4=>
 rF 31 x1 4 w fun x8=>
 rL 29 x8 w fun x9=>
 rN 29 3 x9 w fun x10=>
 rC (u4 3) x10 w fun x11=>
 BR x11
 (rL 31 x1 w fun x14=>
 cL 33 [x14,(u4 3)] w fun x16 w=>
 rD (Op.unary .not x16) w fun x17=>
 BR x17
 (R (Value.bool false) w)
 (rA (u4 3) (iV 1) w fun x13=>
 next4 [x13] w))
 (R (Value.bool true) w))
def cfg12:Cfg:=⟨extL,[],[(4,262028,[3])],[],[],[],[]⟩
theorem F12_call {a0:Value} {w:World} {R:VW} (h:F12 a0 w R):cL 12 [a0] w R:=co (g:=cfg12) Tryz.func12 (by kernel_rfl) (by kernel_rfl) (by kernel_rfl) h
theorem zeC {w:World} {v0:Value} {W0:World} {c:DCode}  (h0:Is W0 v0 c) (e0:Ext W0 w)  :
   CALL Tryz.prog 12 [v0] w fun r w'=>Ext w w'∧(r=.bool (decide (CodeR c))):=by
 refine F12_call ?_
 unfold F12
 refine zaD zbt rfl h0 e0 fun w1_ hx1_ hA1 hV1=>?_
 refine zbC hV1 (Ext.refl w1_) ?_
 refine (zmJ h0 (e0.trans hx1_)).mono ?_
 rintro _ w2_ ⟨hx2_,rfl⟩
 skip
 refine zaz ?_
 refine br (fun c1=>?_) (fun c1=>?_)
 · refine ⟨(hx1_.trans hx2_),?_⟩
   have:¬CodeR c:=fun h=>c1 ⟨h.1,h.2.1⟩
   simp only [this,decide_false]
 refine zaq (c.ins.length) (fun k us w'=>us=[.int .i64 (k:Int)]∧Ext w2_ w'∧(∀ j,j<k→zfX c (zal c j) (en c (zat c j).toNat) (zeB c (zat c j)+1))) (0) (by omega) ⟨by simp,Ext.refl w2_,fun i h=>by omega⟩ ?_
 rintro k m4 uu4 w3_ hk4 ⟨hu,hx3_,hinv⟩
 simp only [List.map_cons,List.map_nil,List.cons.injEq,and_true] at hu
 try rw [hu]
 try clear hu
 replace c1:=Decidable.not_not.1 c1
 refine zaa zaJ ?_
 refine zac zct (zai hA1) (hx2_.trans hx3_) fun v9 h9=>?_
 have hln10:=zam h9
 refine zag u29 h9 ?_
 refine zah ?_
 refine br (fun c2=>?_) (fun c2=>?_)
 · refine zbC hV1 (hx2_.trans hx3_) ?_
   refine (zqa h0 (e0.trans (hx1_.trans (hx2_.trans hx3_))) (by omega) c1.2.nonneg (by have:=c1.1.procs8;have:=c1.2.1;omega) (zkh c1.1 c1.2 (by omega))).mono ?_
   rintro _ w4_ ⟨hx4_,rfl⟩
   refine zaz ?_
   refine br (fun c3=>?_) (fun c3=>?_)
   · refine ⟨(hx1_.trans (hx2_.trans (hx3_.trans hx4_))),?_⟩
     have:¬CodeR c:=fun h=>c3 (h.2.2 k (by omega))
     simp only [this,decide_false]
   refine zaf (by omega) ?_
   refine ⟨m4-1,by omega,k+1,by omega,by simp,(hx3_.trans hx4_),?_⟩
   exact zgr hinv (Decidable.not_not.1 c3)
 refine ⟨(hx1_.trans (hx2_.trans hx3_)),?_⟩
 have:CodeR c:=⟨c1.1,c1.2,fun j hj=>hinv j (by omega)⟩
 simp only [this,decide_true]
def F83 (a0:Value) (w:World) (R:VW):Prop:=
 oP (Instr.box 31 a0) w fun x1 w=>
 rF 31 x1 0 w fun x3=>
 rL 22 x3 w fun x4=>
 cL 137 [x4,(iV 6)] w fun x5 w=>
 rD (Op.unary .not x5) w fun x6=>
 BR x6
 (R (Value.bool false) w)
 (rF 31 x1 1 w fun x8=>
 rL 22 x8 w fun x9=>
 cL 137 [x9,(iV 6)] w fun x10 w=>
 rD (Op.unary .not x10) w fun x11=>
 BR x11
 (R (Value.bool false) w)
 (rF 31 x1 2 w fun x14=>
 rL 22 x14 w fun x15=>
 cL 137 [x15,(iV 8)] w fun x16 w=>
 rD (Op.unary .not x16) w fun x17=>
 BR x17
 (R (Value.bool false) w)
 (rF 31 x1 0 w fun x19=>
 rL 22 x19 w fun x20=>
 cL 138 [x20] w fun x21 w=>
 BR x21
 (R (Value.bool false) w)
 (rF 31 x1 1 w fun x23=>
 rL 22 x23 w fun x24=>
 cL 138 [x24] w fun x25 w=>
 BR x25
 (R (Value.bool false) w)
 (rF 31 x1 2 w fun x28=>
 rL 22 x28 w fun x29=>
 cL 138 [x29] w fun x30 w=>
 BR x30
 (R (Value.bool false) w)
 (rF 31 x1 2 w fun x32=>
 rL 22 x32 w fun x33=>
 cL 139 [x33,(Value.string (ByteArray.mk #[109,97,105,110]))] w fun x34 w=>
 R x34 w))))))
def cfg83:Cfg:=⟨extL,[],[],[],[],[],[]⟩
theorem F83_call {a0:Value} {w:World} {R:VW} (h:F83 a0 w R):cL 83 [a0] w R:=co (g:=cfg83) Tryz.func83 (by kernel_rfl) (by kernel_rfl) (by kernel_rfl) h
theorem zki {w:World} {v0:Value} {W0:World} {c:DCode}  (h0:Is W0 v0 c) (e0:Ext W0 w)  :
   CALL Tryz.prog 83 [v0] w fun r w'=>Ext w w'∧(r=.bool (decide (NamesR c))):=by
 refine F83_call ?_
 unfold F83
 refine zaD zbt rfl h0 e0 fun w1_ hx1_ hA1 hV1=>?_
 refine zaa zcH ?_
 refine zac zbP (zaZ hA1) (Ext.refl w1_) fun v4 h4=>?_
 refine (zfT h4 (Ext.refl w1_)).mono ?_
 rintro _ w2_ ⟨hx2_,rfl⟩
 refine zaV ?_
 refine zbw (fun c1=>?_) (fun c1=>?_)
 · refine ⟨(hx1_.trans hx2_),?_⟩
   have:¬NamesR c:=fun h=>by rw [h.1] at c1;cases c1
   simp only [this,decide_false]
 refine zaa zcn ?_
 refine zac zbP (zaR hA1) hx2_ fun v9 h9=>?_
 refine (zfT h9 hx2_).mono ?_
 rintro _ w3_ ⟨hx3_,rfl⟩
 refine zaV ?_
 refine zbw (fun c2=>?_) (fun c2=>?_)
 · refine ⟨(hx1_.trans (hx2_.trans hx3_)),?_⟩
   have:¬NamesR c:=fun h=>by rw [h.2.1] at c2;cases c2
   simp only [this,decide_false]
 refine zaa zba ?_
 refine zac zbP (zar hA1) (hx2_.trans hx3_) fun v15 h15=>?_
 refine (zfT h15 (hx2_.trans hx3_)).mono ?_
 rintro _ w4_ ⟨hx4_,rfl⟩
 refine zaV ?_
 refine zbw (fun c3=>?_) (fun c3=>?_)
 · refine ⟨(hx1_.trans (hx2_.trans (hx3_.trans hx4_))),?_⟩
   have:¬NamesR c:=fun h=>by rw [h.2.2.1] at c3;cases c3
   simp only [this,decide_false]
 refine zaa zcH ?_
 refine zac zbP (zaZ hA1) (hx2_.trans (hx3_.trans hx4_)) fun v20 h20=>?_
 refine (zfV h20 (hx2_.trans (hx3_.trans hx4_))).mono ?_
 rintro _ w5_ ⟨hx5_,rfl⟩
 refine br (fun c4=>?_) (fun c4=>?_)
 · refine ⟨(hx1_.trans (hx2_.trans (hx3_.trans (hx4_.trans hx5_)))),?_⟩
   have:¬NamesR c:=fun h=>c4 h.2.2.2.1
   simp only [this,decide_false]
 refine zaa zcn ?_
 refine zac zbP (zaR hA1) (hx2_.trans (hx3_.trans (hx4_.trans hx5_))) fun v24 h24=>?_
 refine (zfV h24 (hx2_.trans (hx3_.trans (hx4_.trans hx5_)))).mono ?_
 rintro _ w6_ ⟨hx6_,rfl⟩
 refine br (fun c5=>?_) (fun c5=>?_)
 · refine ⟨(hx1_.trans (hx2_.trans (hx3_.trans (hx4_.trans (hx5_.trans hx6_))))),?_⟩
   have:¬NamesR c:=fun h=>c5 h.2.2.2.2.1
   simp only [this,decide_false]
 refine zaa zba ?_
 refine zac zbP (zar hA1) (hx2_.trans (hx3_.trans (hx4_.trans (hx5_.trans hx6_)))) fun v29 h29=>?_
 refine (zfV h29 (hx2_.trans (hx3_.trans (hx4_.trans (hx5_.trans hx6_))))).mono ?_
 rintro _ w7_ ⟨hx7_,rfl⟩
 refine br (fun c6=>?_) (fun c6=>?_)
 · refine ⟨(hx1_.trans (hx2_.trans (hx3_.trans (hx4_.trans (hx5_.trans (hx6_.trans hx7_)))))),?_⟩
   have:¬NamesR c:=fun h=>c6 h.2.2.2.2.2.1
   simp only [this,decide_false]
 refine zaa zba ?_
 refine zac zbP (zar hA1) (hx2_.trans (hx3_.trans (hx4_.trans (hx5_.trans (hx6_.trans hx7_))))) fun v33 h33=>?_
 refine (zb6 h33 (hx2_.trans (hx3_.trans (hx4_.trans (hx5_.trans (hx6_.trans hx7_)))))).mono ?_
 rintro _ w8_ ⟨hx8_,rfl⟩
 refine ⟨(hx1_.trans (hx2_.trans (hx3_.trans (hx4_.trans (hx5_.trans (hx6_.trans (hx7_.trans hx8_))))))),?_⟩
 congr 1
 rw [decide_eq_decide]
 exact ⟨fun h=>⟨by simpa using c1,by simpa using c2,by simpa using c3,Decidable.not_not.1 c4,Decidable.not_not.1 c5,Decidable.not_not.1 c6,h⟩,fun h=>h.2.2.2.2.2.2⟩
def zkj (c:DCode):Nat→Nat
 | 0=>0
 | k+1=>zkj c k+if (zal c k).op=9 then 1 else 0
theorem zqb (c:DCode):∀ k,zkj c k≤k
 | 0=>Nat.le_refl _
 | k+1=>by have:=zqb c k;rw [zkj];split<;>omega
def EntI (c:DCode):Prop:=c.ins.length≤1500∧c.entry.length=c.procs.length∧en c 0=0∧zkj c c.ins.length=c.entry.length ∧
 ∀ i,i<c.entry.length→en c i<zdh c i∧zdh c i≤c.ins.length∧(zal c (zdh c i-1).toNat).op=9
instance (c:DCode):Decidable (EntI c):=by unfold EntI;infer_instance
theorem zfY {c:DCode} (h0:en c 0=0):∀ {q:Nat},q<c.entry.length→(∀ i,i<q→en c i<zdh c i)→0≤en c q
 | 0,_,_=>by omega
 | q+1,hq,h=>by
   have h1:=zfY h0 (q:=q) (by omega) fun i hi=>h i (by omega)
   have h2:=h q (by omega)
   unfold zdh at h2
   rw [if_pos hq] at h2
   omega
def F84 (a0:Value) (w:World) (R:VW):Prop:=
 oP (Instr.box 31 a0) w fun x1 w=>
 rF 31 x1 4 w fun x9=>
 rL 29 x9 w fun x10=>
 rN 29 3 x10 w fun x11=>
 rB .gtr 3 T0 U0 x11 (iV 1500) w fun x12=>
 BR x12
 (R (Value.bool false) w)
 (rF 31 x1 3 w fun x14=>
 rL 23 x14 w fun x15=>
 rN 23 3 x15 w fun x16=>
 rF 31 x1 2 w fun x17=>
 rL 22 x17 w fun x18=>
 rN 22 3 x18 w fun x19=>
 rB .neq 3 T0 T0 x16 x19 w fun x20=>
 BR x20
 (R (Value.bool false) w)
 (rF 31 x1 3 w fun x23=>
 rL 23 x23 w fun x24=>
 rX 23 x24 (iV 0) w fun x25=>
 rL 3 x25 w fun x26=>
 rB .neq 3 T0 U0 x26 (iV 0) w fun x27=>
 BR x27
 (R (Value.bool false) w)
 (rF 31 x1 4 w fun x29=>
 rL 29 x29 w fun x30=>
 rN 29 3 x30 w fun x31=>
 LOOPI [3,32] [(iV 0),(iV 0)] w fun u5 w next5=>
 rC (u5 32) x31 w fun x33=>
 BR x33
 (rX 29 x30 (u5 32) w fun x34=>
 rL 94 x34 w fun x35=>
 oP (Instr.alloc 94 true (.tuple #[])) w fun x5 w=>
 oS 94 x5 x35 w fun w=>
 rF 94 x5 0 w fun x36=>
 rL 3 x36 w fun x37=>
 rB .eql 3 T0 U0 x37 (iV 9) w fun x38=>
 BR x38
 (rA (u5 3) (iV 1) w fun x40=>
 rA (u5 32) (iV 1) w fun x41=>
 next5 [x40,x41] w)
 (rA (u5 32) (iV 1) w fun x41=>
 next5 [(u5 3),x41] w))
 (rF 31 x1 3 w fun x43=>
 rL 23 x43 w fun x44=>
 rN 23 3 x44 w fun x45=>
 rB .neq 3 T0 T0 (u5 3) x45 w fun x46=>
 BR x46
 (R (Value.bool false) w)
 (rF 31 x1 3 w fun x47=>
 rL 23 x47 w fun x48=>
 rN 23 3 x48 w fun x49=>
 LOOPI [50] [(iV 0)] w fun u13 w next13=>
 rC (u13 50) x49 w fun x51=>
 BR x51
 ((fun w=>rF 31 x1 3 w fun x53=>
 rL 23 x53 w fun x54=>
 rX 23 x54 (u13 50) w fun x56=>
 rL 3 x56 w fun x57=>
 rF 31 x1 4 w fun x58=>
 rL 29 x58 w fun x59=>
 rN 29 3 x59 w fun x60=>
 JOIN [8] (fun J18=>
 rA (u13 50) (iV 1) w fun x62=>
 rF 31 x1 3 w fun x63=>
 rL 23 x63 w fun x64=>
 rN 23 3 x64 w fun x65=>
 rC x62 x65 w fun x66=>
 BR x66
 (rF 31 x1 3 w fun x67=>
 rL 23 x67 w fun x68=>
 rA (u13 50) (iV 1) w fun x70=>
 rX 23 x68 x70 w fun x71=>
 rL 3 x71 w fun x72=>
 J18 [x72] w)
 (J18 [x60] w)) (fun u18 w=>
 rB .leq 3 T0 T0 (u18 8) x57 w fun x75=>
 BR x75
 (R (Value.bool false) w)
 (rF 31 x1 4 w fun x78=>
 rL 29 x78 w fun x79=>
 rN 29 3 x79 w fun x80=>
 rB .gtr 3 T0 T0 (u18 8) x80 w fun x81=>
 BR x81
 (R (Value.bool false) w)
 (rF 31 x1 4 w fun x84=>
 rL 29 x84 w fun x85=>
 rB .sub 3 T0 U0 (u18 8) (iV 1) w fun x87=>
 rX 29 x85 x87 w fun x88=>
 rF 94 x88 0 w fun x89=>
 rL 3 x89 w fun x90=>
 rB .neq 3 T0 U0 x90 (iV 9) w fun x91=>
 BR x91
 (R (Value.bool false) w)
 (rA (u13 50) (iV 1) w fun x93=>
 next13 [x93] w))))) (World.drew1 w))
 (R (Value.bool true) w))))))
def cfg84:Cfg:=⟨extL,[(18,9442427122730076733696,[8])],[(5,4393751543848,[3,32]),(13,19807040628564958498479145412,[50])],[(15,[0,1,2,3,4,5,6,7,8,9],0)],[],[],[]⟩
theorem F84_call {a0:Value} {w:World} {R:VW} (h:F84 a0 w R):cL 84 [a0] w R:=co (g:=cfg84) Tryz.func84 (by kernel_rfl) (by kernel_rfl) (by kernel_rfl) h
theorem zim {w:World} {v0:Value} {W0:World} {c:DCode}  (h0:Is W0 v0 c) (e0:Ext W0 w) (hp:0<c.procs.length) :
   CALL Tryz.prog 84 [v0] w fun r w'=>Ext w w'∧(r=.bool (decide (EntI c))):=by
 refine F84_call ?_
 unfold F84
 refine zaD zbt rfl h0 e0 fun w1_ hx1_ hA1 hV1=>?_
 refine zaa zaJ ?_
 refine zac zct (zai hA1) (Ext.refl w1_) fun v10 h10=>?_
 have hln11:=zam h10
 refine zag u29 h10 ?_
 refine zcQ ?_
 refine br (fun c1=>?_) (fun c1=>?_)
 · refine ⟨hx1_,?_⟩
   have:¬EntI c:=fun h=>by have:=h.1;omega
   simp only [this,decide_false]
 refine zaa za1 ?_
 refine zac zbE (zap hA1) (Ext.refl w1_) fun v15 h15=>?_
 have hln16:=zam h15
 refine zag u23 h15 ?_
 refine zaa zba ?_
 refine zac zbP (zar hA1) (Ext.refl w1_) fun v18 h18=>?_
 have hln19:=zam h18
 refine zag u22 h18 ?_
 refine zaI ?_
 refine br (fun c2=>?_) (fun c2=>?_)
 · refine ⟨hx1_,?_⟩
   have:¬EntI c:=fun h=>by have:=h.2.1;omega
   simp only [this,decide_false]
 refine zaa za1 ?_
 refine zac zbE (zap hA1) (Ext.refl w1_) fun v24 h24=>?_
 refine zch u23 ty3 h24 (by omega) (by omega) fun b25 o25 h25=>?_
 refine zab ty3 h25 (Ext.refl w1_) fun hI26=>?_
 refine zaI ?_
 refine br (fun c3=>?_) (fun c3=>?_)
 · refine ⟨hx1_,?_⟩
   rw [zbe] at c3
   have:¬EntI c:=fun h=>c3 h.2.2.1
   simp only [this,decide_false]
 refine zaa zaJ ?_
 refine zac zct (zai hA1) (Ext.refl w1_) fun v30 h30=>?_
 have hln31:=zam h30
 refine zag u29 h30 ?_
 refine zaq (c.ins.length) (fun k us w'=>us=[.int .i64 (zkj c k:Int),.int .i64 (k:Int)]∧Ext w1_ w'∧(True)) (0) (by omega) ⟨rfl,Ext.refl w1_,trivial⟩ ?_
 rintro k m5 uu5 w2_ hk5 ⟨hu,hx2_,hinv⟩
 obtain ⟨hu0,hu1⟩:=zb1 hu;clear hu
 try rw [hu0]
 try rw [hu1]
 try clear hu0 hu1
 have hel:=zqb c k
 refine zah ?_
 refine br (fun c4=>?_) (fun c4=>?_)
 · refine zad u29 zcb h30 (by omega) fun b34 o34 h34=>?_
   refine zac zcb h34 hx2_ fun v35 h35=>?_
   rw [zaF] at h35
   refine zbX zmj rfl zcb rfl h35 hx2_ fun w3_ hx3_ hA5 hV5=>?_
   refine zaa za6 ?_
   refine zab ty3 (zas hA5) (Ext.refl w3_) fun hI37=>?_
   refine zao ?_
   refine br (fun c5=>?_) (fun c5=>?_)
   · refine zaf (by omega) ?_
     refine zaf (by omega) ?_
     refine ⟨m5-1,by omega,k+1,by omega,by rw [zkj,if_pos c5],(hx2_.trans hx3_),?_⟩
     trivial
   refine zaf (by omega) ?_
   refine ⟨m5-1,by omega,k+1,by omega,by rw [zkj,if_neg c5];rfl,(hx2_.trans hx3_),?_⟩
   trivial
 refine zaa za1 ?_
 refine zac zbE (zap hA1) hx2_ fun v44 h44=>?_
 have hln45:=zam h44
 refine zag u23 h44 ?_
 refine zaI ?_
 refine br (fun c6=>?_) (fun c6=>?_)
 · refine ⟨(hx1_.trans hx2_),?_⟩
   have:¬EntI c:=fun h=>c6 (by rw [show k=c.ins.length by omega,h.2.2.2.1])
   simp only [this,decide_false]
 refine zaa za1 ?_
 refine zac zbE (zap hA1) hx2_ fun v48 h48=>?_
 have hln49:=zam h48
 refine zag u23 h48 ?_
 refine zaq (c.entry.length) (fun q us w'=>us=[.int .i64 (q:Int)]∧Ext w2_ w'∧(∀ i,i<q→en c i<zdh c i∧zdh c i≤c.ins.length∧(zal c (zdh c i-1).toNat).op=9)) (0) (by omega) ⟨by simp,Ext.refl w2_,fun i h=>by omega⟩ ?_
 rintro q m13 uu13 w4_ hk13 ⟨hu,hx4_,hent⟩
 simp only [List.map_cons,List.map_nil,List.cons.injEq,and_true] at hu
 try rw [hu]
 try clear hu
 refine zah ?_
 refine br (fun c7=>?_) (fun c7=>?_)
 · have hx5_:=zak w4_
   refine zaa za1 ?_
   refine zac zbE (zap hA1) (hx2_.trans (hx4_.trans hx5_)) fun v54 h54=>?_
   refine zad u23 ty3 h54 (by omega) fun b56 o56 h56=>?_
   refine zab ty3 h56 (hx2_.trans (hx4_.trans hx5_)) fun hI57=>?_
   refine zaa zaJ ?_
   refine zac zct (zai hA1) (hx2_.trans (hx4_.trans hx5_)) fun v59 h59=>?_
   have hln60:=zam h59
   refine zag u29 h59 ?_
   refine JOIN.mk (fun us w'=>us=[.int .i64 (zdh c q)]∧Ext (World.drew1 w4_) w'∧(True)) ?_ ?_
   · refine zaf (by omega) ?_
     refine zaa za1 ?_
     refine zac zbE (zap hA1) (hx2_.trans (hx4_.trans hx5_)) fun v64 h64=>?_
     have hln65:=zam h64
     refine zag u23 h64 ?_
     refine zah ?_
     refine br (fun c8=>?_) (fun c8=>?_)
     · refine zaa za1 ?_
       refine zac zbE (zap hA1) (hx2_.trans (hx4_.trans hx5_)) fun v68 h68=>?_
       refine zaf (by omega) ?_
       refine zad u23 ty3 h68 (by omega) fun b71 o71 h71=>?_
       refine zab ty3 h71 (hx2_.trans (hx4_.trans hx5_)) fun hI72=>?_
       refine ⟨by unfold zdh;rw [if_pos (by omega),zbe],Ext.refl (World.drew1 w4_),?_⟩
       trivial
     refine ⟨by unfold zdh;rw [if_neg (by omega)],Ext.refl (World.drew1 w4_),?_⟩
     trivial
   rintro uj18 w6_ ⟨hu,hx6_,hinv⟩
   simp only [List.map_cons,List.map_nil,List.cons.injEq,and_true] at hu
   try rw [hu]
   try clear hu
   refine zdw ?_
   refine br (fun c9=>?_) (fun c9=>?_)
   · refine ⟨(hx1_.trans (hx2_.trans (hx4_.trans (hx5_.trans hx6_)))),?_⟩
     rw [zbe] at c9
     have:¬EntI c:=fun h=>by have:=(h.2.2.2.2 q (by omega)).1;omega
     simp only [this,decide_false]
   refine zaa zaJ ?_
   refine zac zct (zai hA1) (hx2_.trans (hx4_.trans (hx5_.trans hx6_))) fun v79 h79=>?_
   have hln80:=zam h79
   refine zag u29 h79 ?_
   refine zcQ ?_
   refine br (fun c10=>?_) (fun c10=>?_)
   · refine ⟨(hx1_.trans (hx2_.trans (hx4_.trans (hx5_.trans hx6_)))),?_⟩
     have:¬EntI c:=fun h=>by have:=(h.2.2.2.2 q (by omega)).2.1;omega
     simp only [this,decide_false]
   refine zaa zaJ ?_
   refine zac zct (zai hA1) (hx2_.trans (hx4_.trans (hx5_.trans hx6_))) fun v85 h85=>?_
   rw [zbe] at c3 c9
   have hq0:=zfY (Decidable.not_not.1 c3) (q:=q) (by omega) fun i hi=>(hent i hi).1
   refine zbf (by unfold I64;omega) ?_
   refine zch u29 zcb h85 (by omega) (by omega) fun b88 o88 h88=>?_
   refine zaa za6 ?_
   refine zab ty3 (zas h88) (hx2_.trans (hx4_.trans (hx5_.trans hx6_))) fun hI90=>?_
   refine zaI ?_
   refine br (fun c11=>?_) (fun c11=>?_)
   · refine ⟨(hx1_.trans (hx2_.trans (hx4_.trans (hx5_.trans hx6_)))),?_⟩
     rw [zaF] at c11
     have:¬EntI c:=fun h=>c11 (h.2.2.2.2 q (by omega)).2.2
     simp only [this,decide_false]
   refine zaf (by omega) ?_
   refine ⟨m13-1,by omega,q+1,by omega,by simp,(hx4_.trans (hx5_.trans hx6_)),?_⟩
   rw [zaF] at c11
   exact zgr hent ⟨by omega,by omega,Decidable.not_not.1 c11⟩
 refine ⟨(hx1_.trans (hx2_.trans hx4_)),?_⟩
 rw [zbe] at c3
 have:EntI c:=⟨by omega,by omega,Decidable.not_not.1 c3,by rw [show c.ins.length=k by omega];omega,fun i hi=>hent i (by omega)⟩
 simp only [this,decide_true]
def F140 (a0 a1:Value) (w:World) (R:VW):Prop:=
 oP (Instr.box 31 a0) w fun x2 w=>
 rB .eql 3 T0 U0 a1 (iV 1) w fun x7=>
 BR x7
 (rF 31 x2 0 w fun x8=>
 rL 22 x8 w fun x9=>
 rN 22 3 x9 w fun x10=>
 R x10 w)
 (rB .eql 3 T0 U0 a1 (iV 4) w fun x12=>
 BR x12
 (rF 31 x2 2 w fun x14=>
 rL 22 x14 w fun x15=>
 rN 22 3 x15 w fun x16=>
 R x16 w)
 (rB .eql 3 T0 U0 a1 (iV 5) w fun x13=>
 BR x13
 (rF 31 x2 2 w fun x14=>
 rL 22 x14 w fun x15=>
 rN 22 3 x15 w fun x16=>
 R x16 w)
 (rB .eql 3 T0 U0 a1 (iV 6) w fun x18=>
 BR x18
 (rF 31 x2 1 w fun x20=>
 rL 22 x20 w fun x21=>
 rN 22 3 x21 w fun x22=>
 R x22 w)
 (rB .eql 3 T0 U0 a1 (iV 7) w fun x19=>
 BR x19
 (rF 31 x2 1 w fun x20=>
 rL 22 x20 w fun x21=>
 rN 22 3 x21 w fun x22=>
 R x22 w)
 (R (iV 1) w)))))
def cfg140:Cfg:=⟨extL,[],[],[],[],[],[]⟩
theorem F140_call {a0 a1:Value} {w:World} {R:VW} (h:F140 a0 a1 w R):cL 140 [a0,a1] w R:=co (g:=cfg140) Tryz.func140 (by kernel_rfl) (by kernel_rfl) (by kernel_rfl) h
theorem zoE {w:World} {v0:Value} {W0:World} {c:DCode} {op:Int}  (h0:Is W0 v0 c) (e0:Ext W0 w)  :
   CALL Tryz.prog 140 [v0,.int .i64 op] w fun r w'=>Ext w w'∧(r=.int .i64 (zb7 c op)):=by
 refine F140_call ?_
 unfold F140
 refine zaD zbt rfl h0 e0 fun w1_ hx1_ hA2 hV2=>?_
 refine zao ?_
 refine br (fun c1=>?_) (fun c1=>?_)
 · refine zaa zcH ?_
   refine zac zbP (zaZ hA2) (Ext.refl w1_) fun v9 h9=>?_
   have hln10:=zam h9
   refine zag u22 h9 ?_
   refine ⟨hx1_,?_⟩
   unfold zb7;rw [if_pos c1]
 refine zao ?_
 refine br (fun c2=>?_) (fun c2=>?_)
 · refine zaa zba ?_
   refine zac zbP (zar hA2) (Ext.refl w1_) fun v15 h15=>?_
   have hln16:=zam h15
   refine zag u22 h15 ?_
   refine ⟨hx1_,?_⟩
   unfold zb7;rw [if_neg (by omega),if_pos (by omega)]
 refine zao ?_
 refine br (fun c3=>?_) (fun c3=>?_)
 · refine zaa zba ?_
   refine zac zbP (zar hA2) (Ext.refl w1_) fun v15 h15=>?_
   have hln16:=zam h15
   refine zag u22 h15 ?_
   refine ⟨hx1_,?_⟩
   unfold zb7;rw [if_neg (by omega),if_pos (by omega)]
 refine zao ?_
 refine br (fun c4=>?_) (fun c4=>?_)
 · refine zaa zcn ?_
   refine zac zbP (zaR hA2) (Ext.refl w1_) fun v21 h21=>?_
   have hln22:=zam h21
   refine zag u22 h21 ?_
   refine ⟨hx1_,?_⟩
   unfold zb7;rw [if_neg (by omega),if_neg (by omega),if_pos (by omega)]
 refine zao ?_
 refine br (fun c5=>?_) (fun c5=>?_)
 · refine zaa zcn ?_
   refine zac zbP (zaR hA2) (Ext.refl w1_) fun v21 h21=>?_
   have hln22:=zam h21
   refine zag u22 h21 ?_
   refine ⟨hx1_,?_⟩
   unfold zb7;rw [if_neg (by omega),if_neg (by omega),if_pos (by omega)]
 refine ⟨hx1_,?_⟩
 unfold zb7;rw [if_neg (by omega),if_neg (by omega),if_neg (by omega)]
def F86 (a0 a1 a2 a3:Value) (w:World) (R:VW):Prop:=
 oP (Instr.box 31 a0) w fun x4 w=>
 oP (Instr.box 94 a1) w fun x5 w=>
 (fun w=>rF 94 x5 0 w fun x11=>
 rL 3 x11 w fun x12=>
 rB .lss 3 T0 U0 x12 (iV 1) w fun x13=>
 BR x13
 (R (Value.bool false) w)
 (rF 94 x5 0 w fun x15=>
 rL 3 x15 w fun x16=>
 rB .gtr 3 T0 U0 x16 (iV 9) w fun x17=>
 BR x17
 (R (Value.bool false) w)
 (rF 94 x5 1 w fun x20=>
 rL 3 x20 w fun x21=>
 rB .lss 3 T0 U0 x21 (iV 0) w fun x22=>
 BR x22
 (R (Value.bool false) w)
 (rF 94 x5 1 w fun x25=>
 rL 3 x25 w fun x26=>
 rL 31 x4 w fun x27=>
 rF 94 x5 0 w fun x28=>
 rL 3 x28 w fun x29=>
 (fun w_=>cL 140 [x27,x29] w_ fun x30 w=>
 Ext w_ w ∧
 rB .geq 3 T0 T0 x26 x30 w fun x31=>
 BR x31
 (R (Value.bool false) w)
 (JOIN [] (fun J14=>
 rF 94 x5 0 w fun x33=>
 rL 3 x33 w fun x34=>
 rB .eql 3 T0 U0 x34 (iV 1) w fun x35=>
 BR x35
 (rF 94 x5 2 w fun x41=>
 rL 92 x41 w fun x42=>
 cL 141 [x42] w fun x43 w=>
 rD (Op.unary .not x43) w fun x44=>
 BR x44
 (R (Value.bool false) w)
 (rF 94 x5 2 w fun x45=>
 rL 92 x45 w fun x46=>
 cL 142 [x46] w fun x47 w=>
 rN 22 3 x47 w fun x48=>
 LOOPI [49] [(iV 0)] w fun u7 w next7=>
 rC (u7 49) x48 w fun x50=>
 BR x50
 (rX 22 x47 (u7 49) w fun x51=>
 rL 9 x51 w fun x52=>
 rF 31 x4 0 w fun x53=>
 rL 22 x53 w fun x54=>
 cL 139 [x54,x52] w fun x56 w=>
 rD (Op.unary .not x56) w fun x57=>
 BR x57
 (R (Value.bool false) w)
 (rA (u7 49) (iV 1) w fun x58=>
 next7 [x58] w))
 (J14 [] w)))
 (rF 94 x5 0 w fun x37=>
 rL 3 x37 w fun x38=>
 rB .eql 3 T0 U0 x38 (iV 2) w fun x39=>
 BR x39
 (rF 94 x5 2 w fun x41=>
 rL 92 x41 w fun x42=>
 cL 141 [x42] w fun x43 w=>
 rD (Op.unary .not x43) w fun x44=>
 BR x44
 (R (Value.bool false) w)
 (rF 94 x5 2 w fun x45=>
 rL 92 x45 w fun x46=>
 cL 142 [x46] w fun x47 w=>
 rN 22 3 x47 w fun x48=>
 LOOPI [49] [(iV 0)] w fun u7 w next7=>
 rC (u7 49) x48 w fun x50=>
 BR x50
 (rX 22 x47 (u7 49) w fun x51=>
 rL 9 x51 w fun x52=>
 rF 31 x4 0 w fun x53=>
 rL 22 x53 w fun x54=>
 cL 139 [x54,x52] w fun x56 w=>
 rD (Op.unary .not x56) w fun x57=>
 BR x57
 (R (Value.bool false) w)
 (rA (u7 49) (iV 1) w fun x58=>
 next7 [x58] w))
 (J14 [] w)))
 (rF 94 x5 2 w fun x59=>
 rL 92 x59 w fun x60=>
 cL 143 [x60] w fun x61 w=>
 rD (Op.unary .not x61) w fun x62=>
 BR x62
 (R (Value.bool false) w)
 (J14 [] w)))) (fun u14 w=>
 rF 94 x5 0 w fun x63=>
 rL 3 x63 w fun x64=>
 rB .eql 3 T0 U0 x64 (iV 2) w fun x65=>
 BR x65
 (rF 94 x5 3 w fun x71=>
 rL 3 x71 w fun x72=>
 rB .geq 3 T0 T0 x72 a2 w fun x74=>
 BR x74
 (rF 94 x5 3 w fun x76=>
 rL 3 x76 w fun x77=>
 rC x77 a3 w fun x79=>
 R x79 w)
 (R (Value.bool false) w))
 (rF 94 x5 0 w fun x67=>
 rL 3 x67 w fun x68=>
 rB .eql 3 T0 U0 x68 (iV 3) w fun x69=>
 BR x69
 (rF 94 x5 3 w fun x71=>
 rL 3 x71 w fun x72=>
 rB .geq 3 T0 T0 x72 a2 w fun x74=>
 BR x74
 (rF 94 x5 3 w fun x76=>
 rL 3 x76 w fun x77=>
 rC x77 a3 w fun x79=>
 R x79 w)
 (R (Value.bool false) w))
 (rF 94 x5 3 w fun x81=>
 rL 3 x81 w fun x82=>
 rB .eql 3 T0 U0 x82 (iV 0) w fun x83=>
 R x83 w))))) w)))) (World.drew1 w)
def cfg86:Cfg:=⟨extL,[(14,9223372028264842496,[])],[(7,575897802350003456,[49])],[(1,[0,1,2,3,4,5,6,7,8,9,10,11,12,13,14,15,16,17,18,19,20,21],524288)],[],[],[]⟩
theorem F86_call {a0 a1 a2 a3:Value} {w:World} {R:VW} (h:F86 a0 a1 a2 a3 w R):cL 86 [a0,a1,a2,a3] w R:=co (g:=cfg86) Tryz.func86 (by kernel_rfl) (by kernel_rfl) (by kernel_rfl) h
theorem zmK {w:World} {v0:Value} {W0:World} {c:DCode} {v1:Value} {W1:World} {a:DIns} {b:Int} {e:Int}  (h0:Is W0 v0 c) (e0:Ext W0 w) (h1:Is W1 v1 a) (e1:Ext W1 w)  :
   CALL Tryz.prog 86 [v0,v1,.int .i64 b,.int .i64 e] w fun r w'=>Ext w w'∧(r=.bool (decide (zfX c a b e))):=by
 refine F86_call ?_
 unfold F86
 refine zaD zbt rfl h0 e0 fun w1_ hx1_ hA4 hV4=>?_
 refine zaD zcb rfl h1 (e1.trans hx1_) fun w2_ hx2_ hA5 hV5=>?_
 have hx3_:=zak w2_
 refine zaa za6 ?_
 refine zab ty3 (zas hA5) hx3_ fun hI12=>?_
 refine zah ?_
 refine br (fun c1=>?_) (fun c1=>?_)
 · refine ⟨(hx1_.trans (hx2_.trans hx3_)),?_⟩
   have:¬zfX c a b e:=fun h=>by have:=h.1;omega
   simp only [this,decide_false]
 refine zaa za6 ?_
 refine zab ty3 (zas hA5) hx3_ fun hI16=>?_
 refine zcQ ?_
 refine br (fun c2=>?_) (fun c2=>?_)
 · refine ⟨(hx1_.trans (hx2_.trans hx3_)),?_⟩
   have:¬zfX c a b e:=fun h=>by have:=h.1;omega
   simp only [this,decide_false]
 refine zaa za7 ?_
 refine zab ty3 (zav hA5) hx3_ fun hI21=>?_
 refine zah ?_
 refine br (fun c3=>?_) (fun c3=>?_)
 · refine ⟨(hx1_.trans (hx2_.trans hx3_)),?_⟩
   have:¬zfX c a b e:=fun h=>by have:=h.2.1;omega
   simp only [this,decide_false]
 refine zaa za7 ?_
 refine zab ty3 (zav hA5) hx3_ fun hI26=>?_
 refine zbC hV4 (hx2_.trans hx3_) ?_
 refine zaa za6 ?_
 refine zab ty3 (zas hA5) hx3_ fun hI29=>?_
 refine (zoE h0 (e0.trans (hx1_.trans (hx2_.trans hx3_)))).mono ?_
 rintro _ w4_ ⟨hx4_,rfl⟩
 refine ⟨hx4_,?_⟩
 refine zb9 ?_
 refine br (fun c4=>?_) (fun c4=>?_)
 · refine ⟨(hx1_.trans (hx2_.trans (hx3_.trans hx4_))),?_⟩
   have:¬zfX c a b e:=fun h=>by have:=h.2.1;omega
   simp only [this,decide_false]
 refine JOIN.mk (fun us w'=>us=[]∧Ext w4_ w'∧(if a.op=1∨a.op=2 then zbD 6 a.term=true∧(∀ s∈zbT a.term,s∈c.globals) else a.term=term0)) ?_ ?_
 · refine zaa za6 ?_
   refine zab ty3 (zas hA5) (hx3_.trans hx4_) fun hI34=>?_
   refine zao ?_
   refine br (fun c5=>?_) (fun c5=>?_)
   · refine zaa zdB ?_
     refine zac zdu (zbu hA5) (hx3_.trans hx4_) fun v42 h42=>?_
     refine (zez h42 (hx3_.trans hx4_)).mono ?_
     rintro _ w6_ ⟨hx6_,rfl⟩
     refine zaV ?_
     refine zbw (fun c6=>?_) (fun c6=>?_)
     · refine ⟨(hx1_.trans (hx2_.trans (hx3_.trans (hx4_.trans hx6_)))),?_⟩
       have:¬zfX c a b e:=fun h=>by have:=h.2.2.1;rw [if_pos (.inl c5)] at this;rw [this.1] at c6;cases c6
       simp only [this,decide_false]
     refine zaa zdB ?_
     refine zac zdu (zbu hA5) (hx3_.trans (hx4_.trans hx6_)) fun v46 h46=>?_
     refine (zd1 h46 (hx3_.trans (hx4_.trans hx6_))).mono ?_
     rintro r47 w7_ ⟨hx7_,h47⟩
     have hln48:=zam h47
     refine zag u22 h47 ?_
     refine zaq ((zbT a.term).length) (fun k us w'=>us=[.int .i64 (k:Int)]∧Ext w7_ w'∧(∀ s∈(zbT a.term).take k,s∈c.globals)) (0) (by omega) ⟨by simp,Ext.refl w7_,by simp⟩ ?_
     rintro k m7 uu7 w8_ hk7 ⟨hu,hx8_,hinv⟩
     simp only [List.map_cons,List.map_nil,List.cons.injEq,and_true] at hu
     try rw [hu]
     try clear hu
     refine zah ?_
     refine br (fun c7=>?_) (fun c7=>?_)
     · refine zad u22 ty9 h47 (by omega) fun b51 o51 h51=>?_
       refine zaH ty9 h51 hx8_ fun hS52=>?_
       refine zaa zcH ?_
       refine zac zbP (zaZ hA4) (hx2_.trans (hx3_.trans (hx4_.trans (hx6_.trans (hx7_.trans hx8_))))) fun v54 h54=>?_
       refine (zb6 h54 (hx2_.trans (hx3_.trans (hx4_.trans (hx6_.trans (hx7_.trans hx8_)))))).mono ?_
       rintro _ w9_ ⟨hx9_,rfl⟩
       refine zaz ?_
       refine br (fun c8=>?_) (fun c8=>?_)
       · refine ⟨(hx1_.trans (hx2_.trans (hx3_.trans (hx4_.trans (hx6_.trans (hx7_.trans (hx8_.trans hx9_))))))),?_⟩
         have:¬zfX c a b e:=fun h=>by
           have:=h.2.2.1;rw [if_pos (.inl c5)] at this
           exact c8 (this.2 _ (List.getElem_mem (n:=k) (by omega)))
         simp only [this,decide_false]
       refine zaf (by omega) ?_
       refine ⟨m7-1,by omega,k+1,by omega,by simp,(hx8_.trans hx9_),?_⟩
       intro s hs
       rw [List.take_succ_eq_append_getElem (by omega)] at hs
       rcases List.mem_append.1 hs with hs | hs
       · exact hinv s hs
       simp only [List.mem_cons,List.not_mem_nil,or_false] at hs
       subst hs
       exact Decidable.not_not.1 c8
     refine ⟨by simp,(hx6_.trans (hx7_.trans hx8_)),?_⟩
     rw [if_pos (.inl c5)]
     rw [List.take_of_length_le (by omega)] at hinv
     exact ⟨by simpa using c6,hinv⟩
   refine zaa za6 ?_
   refine zab ty3 (zas hA5) (hx3_.trans hx4_) fun hI38=>?_
   refine zao ?_
   refine br (fun c9=>?_) (fun c9=>?_)
   · refine zaa zdB ?_
     refine zac zdu (zbu hA5) (hx3_.trans hx4_) fun v42 h42=>?_
     refine (zez h42 (hx3_.trans hx4_)).mono ?_
     rintro _ w10_ ⟨hx10_,rfl⟩
     refine zaV ?_
     refine zbw (fun c10=>?_) (fun c10=>?_)
     · refine ⟨(hx1_.trans (hx2_.trans (hx3_.trans (hx4_.trans hx10_)))),?_⟩
       have:¬zfX c a b e:=fun h=>by have:=h.2.2.1;rw [if_pos (.inr c9)] at this;rw [this.1] at c10;cases c10
       simp only [this,decide_false]
     refine zaa zdB ?_
     refine zac zdu (zbu hA5) (hx3_.trans (hx4_.trans hx10_)) fun v46 h46=>?_
     refine (zd1 h46 (hx3_.trans (hx4_.trans hx10_))).mono ?_
     rintro r47 w11_ ⟨hx11_,h47⟩
     have hln48:=zam h47
     refine zag u22 h47 ?_
     refine zaq ((zbT a.term).length) (fun k us w'=>us=[.int .i64 (k:Int)]∧Ext w11_ w'∧(∀ s∈(zbT a.term).take k,s∈c.globals)) (0) (by omega) ⟨by simp,Ext.refl w11_,by simp⟩ ?_
     rintro k m7 uu7 w12_ hk7 ⟨hu,hx12_,hinv⟩
     simp only [List.map_cons,List.map_nil,List.cons.injEq,and_true] at hu
     try rw [hu]
     try clear hu
     refine zah ?_
     refine br (fun c11=>?_) (fun c11=>?_)
     · refine zad u22 ty9 h47 (by omega) fun b51 o51 h51=>?_
       refine zaH ty9 h51 hx12_ fun hS52=>?_
       refine zaa zcH ?_
       refine zac zbP (zaZ hA4) (hx2_.trans (hx3_.trans (hx4_.trans (hx10_.trans (hx11_.trans hx12_))))) fun v54 h54=>?_
       refine (zb6 h54 (hx2_.trans (hx3_.trans (hx4_.trans (hx10_.trans (hx11_.trans hx12_)))))).mono ?_
       rintro _ w13_ ⟨hx13_,rfl⟩
       refine zaz ?_
       refine br (fun c12=>?_) (fun c12=>?_)
       · refine ⟨(hx1_.trans (hx2_.trans (hx3_.trans (hx4_.trans (hx10_.trans (hx11_.trans (hx12_.trans hx13_))))))),?_⟩
         have:¬zfX c a b e:=fun h=>by
           have:=h.2.2.1;rw [if_pos (.inr c9)] at this
           exact c12 (this.2 _ (List.getElem_mem (n:=k) (by omega)))
         simp only [this,decide_false]
       refine zaf (by omega) ?_
       refine ⟨m7-1,by omega,k+1,by omega,by simp,(hx12_.trans hx13_),?_⟩
       intro s hs
       rw [List.take_succ_eq_append_getElem (by omega)] at hs
       rcases List.mem_append.1 hs with hs | hs
       · exact hinv s hs
       simp only [List.mem_cons,List.not_mem_nil,or_false] at hs
       subst hs
       exact Decidable.not_not.1 c12
     refine ⟨by simp,(hx10_.trans (hx11_.trans hx12_)),?_⟩
     rw [if_pos (.inr c9)]
     rw [List.take_of_length_le (by omega)] at hinv
     exact ⟨by simpa using c10,hinv⟩
   refine zaa zdB ?_
   refine zac zdu (zbu hA5) (hx3_.trans hx4_) fun v60 h60=>?_
   refine (zkc h60 (hx3_.trans hx4_)).mono ?_
   rintro _ w14_ ⟨hx14_,rfl⟩
   refine zaz ?_
   refine br (fun c13=>?_) (fun c13=>?_)
   · refine ⟨(hx1_.trans (hx2_.trans (hx3_.trans (hx4_.trans hx14_)))),?_⟩
     have:¬zfX c a b e:=fun h=>by have:=h.2.2.1;rw [if_neg (by omega)] at this;exact c13 this
     simp only [this,decide_false]
   refine ⟨by simp,hx14_,?_⟩
   rw [if_neg (by omega)]
   exact Decidable.not_not.1 c13
 rintro uj14 w5_ ⟨hu,hx14_,hT⟩
 simp only [List.map_cons,List.map_nil,List.cons.injEq,and_true] at hu
 clear hu
 refine zaa za6 ?_
 refine zab ty3 (zas hA5) (hx3_.trans (hx4_.trans hx14_)) fun hI64=>?_
 refine zao ?_
 refine br (fun c14=>?_) (fun c14=>?_)
 · refine zaa zdg ?_
   refine zab ty3 (zbv hA5) (hx3_.trans (hx4_.trans hx14_)) fun hI72=>?_
   refine zb9 ?_
   refine br (fun c15=>?_) (fun c15=>?_)
   · refine zaa zdg ?_
     refine zab ty3 (zbv hA5) (hx3_.trans (hx4_.trans hx14_)) fun hI77=>?_
     refine zah ?_
     refine ⟨(hx1_.trans (hx2_.trans (hx3_.trans (hx4_.trans hx14_)))),?_⟩
     first
       | (have no:¬zfX c a b e:=fun h=>by
           have h4:=h.2.2.2;rw [if_pos (by omega)] at h4;omega
          simp only [no,decide_false]
          done)
       | (congr 1
          rw [decide_eq_decide]
          constructor
          · exact fun h=>⟨by omega,by omega,hT,by first | (rw [if_pos (by omega)];omega) | (rw [if_neg (by omega)];omega)⟩
          intro h
          have h4:=h.2.2.2
          first | (rw [if_pos (by omega)] at h4;omega) | (rw [if_neg (by omega)] at h4;omega))
   refine ⟨(hx1_.trans (hx2_.trans (hx3_.trans (hx4_.trans hx14_)))),?_⟩
   first
     | (have no:¬zfX c a b e:=fun h=>by
         have h4:=h.2.2.2;rw [if_pos (by omega)] at h4;omega
        simp only [no,decide_false]
        done)
     | (congr 1
        rw [decide_eq_decide]
        constructor
        · exact fun h=>⟨by omega,by omega,hT,by first | (rw [if_pos (by omega)];omega) | (rw [if_neg (by omega)];omega)⟩
        intro h
        have h4:=h.2.2.2
        first | (rw [if_pos (by omega)] at h4;omega) | (rw [if_neg (by omega)] at h4;omega))
 refine zaa za6 ?_
 refine zab ty3 (zas hA5) (hx3_.trans (hx4_.trans hx14_)) fun hI68=>?_
 refine zao ?_
 refine br (fun c16=>?_) (fun c16=>?_)
 · refine zaa zdg ?_
   refine zab ty3 (zbv hA5) (hx3_.trans (hx4_.trans hx14_)) fun hI72=>?_
   refine zb9 ?_
   refine br (fun c17=>?_) (fun c17=>?_)
   · refine zaa zdg ?_
     refine zab ty3 (zbv hA5) (hx3_.trans (hx4_.trans hx14_)) fun hI77=>?_
     refine zah ?_
     refine ⟨(hx1_.trans (hx2_.trans (hx3_.trans (hx4_.trans hx14_)))),?_⟩
     first
       | (have no:¬zfX c a b e:=fun h=>by
           have h4:=h.2.2.2;rw [if_pos (by omega)] at h4;omega
          simp only [no,decide_false]
          done)
       | (congr 1
          rw [decide_eq_decide]
          constructor
          · exact fun h=>⟨by omega,by omega,hT,by first | (rw [if_pos (by omega)];omega) | (rw [if_neg (by omega)];omega)⟩
          intro h
          have h4:=h.2.2.2
          first | (rw [if_pos (by omega)] at h4;omega) | (rw [if_neg (by omega)] at h4;omega))
   refine ⟨(hx1_.trans (hx2_.trans (hx3_.trans (hx4_.trans hx14_)))),?_⟩
   first
     | (have no:¬zfX c a b e:=fun h=>by
         have h4:=h.2.2.2;rw [if_pos (by omega)] at h4;omega
        simp only [no,decide_false]
        done)
     | (congr 1
        rw [decide_eq_decide]
        constructor
        · exact fun h=>⟨by omega,by omega,hT,by first | (rw [if_pos (by omega)];omega) | (rw [if_neg (by omega)];omega)⟩
        intro h
        have h4:=h.2.2.2
        first | (rw [if_pos (by omega)] at h4;omega) | (rw [if_neg (by omega)] at h4;omega))
 refine zaa zdg ?_
 refine zab ty3 (zbv hA5) (hx3_.trans (hx4_.trans hx14_)) fun hI82=>?_
 refine zao ?_
 refine ⟨(hx1_.trans (hx2_.trans (hx3_.trans (hx4_.trans hx14_)))),?_⟩
 first
   | (have no:¬zfX c a b e:=fun h=>by
       have h4:=h.2.2.2;rw [if_pos (by omega)] at h4;omega
      simp only [no,decide_false]
      done)
   | (congr 1
      rw [decide_eq_decide]
      constructor
      · exact fun h=>⟨by omega,by omega,hT,by first | (rw [if_pos (by omega)];omega) | (rw [if_neg (by omega)];omega)⟩
      intro h
      have h4:=h.2.2.2
      first | (rw [if_pos (by omega)] at h4;omega) | (rw [if_neg (by omega)] at h4;omega))
def F85 (a0 a1:Value) (w:World) (R:VW):Prop:=
 oP (Instr.box 31 a0) w fun x2 w=>
 rA a1 (iV 1) w fun x6=>
 rF 31 x2 3 w fun x7=>
 rL 23 x7 w fun x8=>
 rN 23 3 x8 w fun x9=>
 rC x6 x9 w fun x10=>
 BR x10
 (rF 31 x2 3 w fun x11=>
 rL 23 x11 w fun x12=>
 rA a1 (iV 1) w fun x14=>
 rX 23 x12 x14 w fun x15=>
 rL 3 x15 w fun x16=>
 R x16 w)
 (rF 31 x2 4 w fun x17=>
 rL 29 x17 w fun x18=>
 rN 29 3 x18 w fun x19=>
 R x19 w)
def cfg85:Cfg:=⟨extL,[],[],[],[],[],[]⟩
theorem F85_call {a0 a1:Value} {w:World} {R:VW} (h:F85 a0 a1 w R):cL 85 [a0,a1] w R:=co (g:=cfg85) Tryz.func85 (by kernel_rfl) (by kernel_rfl) (by kernel_rfl) h
theorem zcz {w:World} {v0:Value} {W0:World} {c:DCode} {i:Nat}  (h0:Is W0 v0 c) (e0:Ext W0 w) (hi:i<1000000000000) :
   CALL Tryz.prog 85 [v0,.int .i64 (i:Int)] w fun r w'=>Ext w w'∧(r=.int .i64 (zdh c i)):=by
 refine F85_call ?_
 unfold F85
 refine zaD zbt rfl h0 e0 fun w1_ hx1_ hA2 hV2=>?_
 refine zaf (by omega) ?_
 refine zaa za1 ?_
 refine zac zbE (zap hA2) (Ext.refl w1_) fun v8 h8=>?_
 have hln9:=zam h8
 refine zag u23 h8 ?_
 refine zah ?_
 refine br (fun c1=>?_) (fun c1=>?_)
 · refine zaa za1 ?_
   refine zac zbE (zap hA2) (Ext.refl w1_) fun v12 h12=>?_
   refine zaf (by omega) ?_
   refine zad u23 ty3 h12 (by omega) fun b15 o15 h15=>?_
   refine zab ty3 h15 (Ext.refl w1_) fun hI16=>?_
   refine ⟨hx1_,?_⟩
   unfold zdh;rw [if_pos (by omega),zbe]
 refine zaa zaJ ?_
 refine zac zct (zai hA2) (Ext.refl w1_) fun v18 h18=>?_
 have hln19:=zam h18
 refine zag u29 h18 ?_
 refine ⟨hx1_,?_⟩
 unfold zdh;rw [if_neg (by omega)]
structure EntF (c:DCode):Prop where
 len:c.entry.length=c.procs.length
 ins:c.ins.length≤1500
 zero:en c 0=0
 lt:∀ i,i<c.entry.length→en c i<zdh c i∧zdh c i≤c.ins.length
theorem EntF.nonneg {c:DCode} (h:EntF c) {i:Nat} (hi:i<c.entry.length):0≤en c i:=zfY h.zero hi fun j hj=>(h.lt j (by omega)).1
theorem EntF.step {c:DCode} (h:EntF c) {i:Nat} (hi:i+1<c.entry.length):zdh c i=en c (i+1):=by unfold zdh;rw [if_pos hi]
theorem EntF.last {c:DCode} (h:EntF c) {i:Nat} (hi:i+1=c.entry.length):zdh c i=c.ins.length:=by unfold zdh;rw [if_neg (by omega)]
theorem EntF.mono {c:DCode} (h:EntF c):∀ {i j:Nat},i<j→j<c.entry.length→zdh c i≤en c j
 | i,j+1,hij,hj=>by
   by_cases e:i=j
   · subst e;rw [h.step hj];exact Int.le_refl _
   have h1:=h.mono (i:=i) (j:=j) (by omega) (by omega)
   have h2:=(h.lt j (by omega)).1
   rw [h.step hj] at h2
   omega
theorem EntF.proc {c:DCode} (h:EntF c) {i:Nat} {a:Int} (hi:i<c.entry.length) (h1:en c i≤a) (h2:a<zdh c i):zat c a=i:=by
 unfold zat
 rw [zhC (m:=i+1) (by omega) fun j hj1 hj2=>by have:=h.mono (i:=i) (j:=j) (by omega) hj2;omega]
 rw [prc,if_pos h1]
theorem EntF.find {c:DCode} (h:EntF c) (hp:0<c.procs.length) {a:Int} (h0:0≤a) (h1:a<c.ins.length):∃ i,i<c.entry.length∧en c i≤a∧a<zdh c i∧zat c a=i:=by
 have hlen:=h.len
 have h2:0≤zat c a:=zgS (by rw [h.zero];exact h0) (by omega)
 have h3:=(zgq (c:=c) (a:=a)).2
 have key:∀ n,n≤c.entry.length→(∀ j,n≤j→j<c.entry.length→a<en c j)→0<n→∃ i,i<n∧en c i≤a∧a<zdh c i:=by
   intro n
   induction n with
   | zero=>intro _ _ h;omega
   | succ n ih=>
     intro hn hj _
     by_cases hle:en c n≤a
     · refine ⟨n,by omega,hle,?_⟩
       by_cases hl:n+1<c.entry.length
       · rw [h.step hl];exact hj (n+1) (by omega) hl
       rw [h.last (by omega)];exact h1
     by_cases h0n:n=0
     · subst h0n;rw [h.zero] at hle;omega
     obtain ⟨i,hi,hx⟩:=ih (by omega) (fun j hj1 hj2=>by
       by_cases e:j=n
       · subst e;omega
       exact hj j (by omega) hj2) (by omega)
     exact ⟨i,by omega,hx⟩
 obtain ⟨i,hi,hx,hy⟩:=key c.entry.length (Nat.le_refl _) (fun j hj1 hj2=>by omega) (by omega)
 exact ⟨i,hi,hx,hy,h.proc hi hx hy⟩
theorem EntS.f {c:DCode} (h:EntS c) (hp:0<c.procs.length):EntF c:=by
 obtain ⟨h1,h2,h3,h4⟩:=h
 refine ⟨h1,h2,(h3 0 (by omega)).1 rfl,fun i hi=>?_⟩
 unfold zdh
 split
 · rename_i hl
   have:=h3 (i+1) hl
   have h5:=this.2.1 (by omega)
   simp only [Nat.add_sub_cancel] at h5
   exact ⟨h5,by omega⟩
 exact ⟨(h3 i hi).2.2,Int.le_refl _⟩
theorem EntI.f {c:DCode} (h:EntI c):EntF c:=⟨h.2.1,h.1,h.2.2.1,fun i hi=>⟨(h.2.2.2.2 i hi).1,(h.2.2.2.2 i hi).2.1⟩⟩
theorem zqc (c:DCode) (a:Nat):∀ (d:Nat),zkj c a≤zkj c (a+d)∧(zkj c (a+d)=zkj c a↔∀ j,a≤j→j<a+d→¬(zal c j).op=9)
 | 0=>⟨Nat.le_refl _,⟨fun _ j h1 h2=>by omega,fun _=>rfl⟩⟩
 | d+1=>by
   obtain ⟨h1,h2⟩:=zqc c a d
   rw [←Nat.add_assoc,zkj]
   refine ⟨by omega,?_⟩
   split
   · rename_i h9
     exact ⟨fun h=>by omega,fun h=>absurd h9 (h (a+d) (by omega) (by omega))⟩
   rename_i h9
   rw [Nat.add_zero,h2]
   constructor
   · intro h j hj1 hj2
     by_cases e:j=a+d
     · subst e;exact h9
     exact h j hj1 (by omega)
   exact fun h j hj1 hj2=>h j hj1 (by omega)
def eb (c:DCode) (n:Nat):Nat:=if n=0 then 0 else (zdh c (n-1)).toNat
theorem EntF.eb_en {c:DCode} (h:EntF c) {n:Nat} (hn:n<c.entry.length):(eb c n:Int)=en c n:=by
 unfold eb
 split
 · rename_i h0;subst h0;rw [h.zero];rfl
 have h1:=h.nonneg hn
 have h2:zdh c (n-1)=en c n:=by
   have:=h.step (i:=n-1) (by omega)
   rwa [show n-1+1=n by omega] at this
 rw [h2];omega
theorem EntF.eb_succ {c:DCode} (h:EntF c) {n:Nat} (hn:n<c.entry.length):(eb c (n+1):Int)=zdh c n:=by
 unfold eb
 rw [if_neg (by omega),Nat.add_sub_cancel]
 have:=(h.lt n hn).1
 have:=h.nonneg hn
 omega
theorem zgT {c:DCode} (h:EntF c) (he:∀ i,i<c.entry.length→(zal c (zdh c i-1).toNat).op=9):∀ n,n≤c.entry.length →
   n≤zkj c (eb c n)∧(zkj c (eb c n)=n↔∀ j:Nat,j<eb c n→(zal c j).op=9→∃ i,i<n∧zdh c i=j+1)
 | 0,_=>⟨Nat.zero_le _,⟨fun _ j hj=>by simp [eb] at hj,fun _=>rfl⟩⟩
 | n+1,hn=>by
   obtain ⟨h1,h2⟩:=zgT h he n (by omega)
   have ha:=h.eb_en (n:=n) (by omega)
   have hb:=h.eb_succ (n:=n) (by omega)
   have hlt:=(h.lt n (by omega)).1
   have h9:=he n (by omega)
   have e9:(zdh c n-1).toNat=eb c (n+1)-1:=by omega
   rw [e9] at h9
   obtain ⟨d,hd⟩:∃ d,eb c (n+1)=eb c n+d+1:=⟨eb c (n+1)-eb c n-1,by omega⟩
   have hd':eb c (n+1)-1=eb c n+d:=by omega
   rw [hd'] at h9
   obtain ⟨h3,h4⟩:=zqc c (eb c n) d
   rw [hd,zkj,if_pos h9]
   refine ⟨by omega,?_⟩
   have hsplit:zkj c (eb c n+d)+1=n+1↔(zkj c (eb c n)=n∧zkj c (eb c n+d)=zkj c (eb c n)):=by omega
   rw [hsplit,h2,h4]
   constructor
   · rintro ⟨p1,p2⟩ j hj hj9
     by_cases hja:j<eb c n
     · obtain ⟨i,hi,hx⟩:=p1 j hja hj9
       exact ⟨i,by omega,hx⟩
     by_cases hje:j=eb c n+d
     · exact ⟨n,by omega,by omega⟩
     exact absurd hj9 (p2 j (by omega) (by omega))
   intro p
   constructor
   · intro j hj hj9
     obtain ⟨i,hi,hx⟩:=p j (by omega) hj9
     by_cases hin:i=n
     · subst hin;omega
     exact ⟨i,by omega,hx⟩
   intro j hj1 hj2 hj9
   obtain ⟨i,hi,hx⟩:=p j (by omega) hj9
   by_cases hin:i=n
   · subst hin;omega
   have:=h.mono (i:=i) (j:=n) (by omega) (by omega)
   omega
theorem zqd {c:DCode} (hp:0<c.procs.length):EntI c↔EntS c:=by
 constructor
 · intro h
   have hf:=h.f
   obtain ⟨_,_,_,hc,hall⟩:=h
   have hlen:=hf.len
   have he:∀ i,i<c.entry.length→(zal c (zdh c i-1).toNat).op=9:=fun i hi=>(hall i hi).2.2
   obtain ⟨_,h2⟩:=zgT hf he c.entry.length (Nat.le_refl _)
   have hb:eb c c.entry.length=c.ins.length:=by
     have:=hf.eb_succ (n:=c.entry.length-1) (by omega)
     rw [hf.last (by omega),show c.entry.length-1+1=c.entry.length by omega] at this
     omega
   rw [hb] at h2
   have h3:=h2.1 hc
   refine ⟨hf.len,hf.ins,fun i hi=>⟨fun _=>hf.zero,fun h0=>?_,?_⟩,fun j hj=>?_⟩
   · have h4:=(hf.lt (i-1) (by omega)).1
     have h5:=hf.step (i:=i-1) (by omega)
     rw [show i-1+1=i by omega] at h5
     omega
   · have:=hf.lt i hi;omega
   obtain ⟨i,hi,hx,hy,hpr⟩:=hf.find hp (a:=j) (by omega) (by omega)
   rw [hpr,zdR]
   constructor
   · intro h9
     obtain ⟨i',hi',hx'⟩:=h3 j hj h9
     have:=hf.lt i' hi'
     have hpr':=hf.proc (a:=j) hi' (by omega) (by omega)
     have:i'=i:=by omega
     subst this
     omega
   intro h9
   have:=he i hi
   rwa [show (zdh c i-1).toNat=j by omega] at this
 intro h
 have hf:=h.f hp
 have hlen:=hf.len
 have h4:=h.2.2.2
 have he:∀ i,i<c.entry.length→(zal c (zdh c i-1).toNat).op=9:=fun i hi=>by
   have h1:=hf.lt i hi
   have h0:=hf.nonneg hi
   have:=(h4 (zdh c i-1).toNat (by omega)).2
   refine this ?_
   rw [hf.proc (i:=i) hi (by omega) (by omega),zdR]
   omega
 obtain ⟨_,h2⟩:=zgT hf he c.entry.length (Nat.le_refl _)
 have hb:eb c c.entry.length=c.ins.length:=by
   have:=hf.eb_succ (n:=c.entry.length-1) (by omega)
   rw [hf.last (by omega),show c.entry.length-1+1=c.entry.length by omega] at this
   omega
 rw [hb] at h2
 refine ⟨hf.ins,hf.len,hf.zero,h2.2 fun j hj h9=>?_,fun i hi=>⟨(hf.lt i hi).1,(hf.lt i hi).2,he i hi⟩⟩
 obtain ⟨i,hi,hx,hy,hpr⟩:=hf.find hp (a:=j) (by omega) (by omega)
 have:=(h4 j hj).1 h9
 rw [hpr,zdR] at this
 exact ⟨i,hi,by omega⟩
theorem zlt {c:DCode} (hn:NamesR c) (he:EntI c):CodeR c↔∀ i,i<c.entry.length→∀ j:Nat,en c i≤j→(j:Int)<zdh c i→zfX c (zal c j) (en c i) (zdh c i):=by
 have hf:=he.f
 have hp:=hn.procs8.2
 constructor
 · intro h i hi j h1 h2
   have h3:=hf.lt i hi
   have:=h.2.2 j (by omega)
   rw [hf.proc hi h1 h2,zdR,Int.toNat_natCast] at this
   rwa [Int.sub_add_cancel] at this
 intro h
 refine ⟨hn,(zqd hp).1 he,fun j hj=>?_⟩
 obtain ⟨i,hi,hx,hy,hpr⟩:=hf.find hp (a:=j) (by omega) (by omega)
 rw [hpr,zdR,Int.toNat_natCast,Int.sub_add_cancel]
 exact h i hi j hx hy
def F44 (a0:Value) (w:World) (R:VW):Prop:=
 oP (Instr.box 31 a0) w fun x1 w=>
 rL 31 x1 w fun x8=>
 cL 83 [x8] w fun x9 w=>
 rD (Op.unary .not x9) w fun x10=>
 BR x10
 (R (Value.bool false) w)
 (rL 31 x1 w fun x12=>
 cL 84 [x12] w fun x13 w=>
 rD (Op.unary .not x13) w fun x14=>
 BR x14
 (R (Value.bool false) w)
 (rF 31 x1 3 w fun x16=>
 rL 23 x16 w fun x17=>
 rN 23 3 x17 w fun x18=>
 LOOPI [19] [(iV 0)] w fun u4 w next4=>
 rC (u4 19) x18 w fun x20=>
 BR x20
 (rX 23 x17 (u4 19) w fun x22=>
 rL 3 x22 w fun x23=>
 rL 31 x1 w fun x24=>
 cL 85 [x24,(u4 19)] w fun x26 w=>
 rF 31 x1 4 w fun x27=>
 rL 29 x27 w fun x28=>
 rD (Instr.sliceAt 29 x28 (some x23) (some x26) none) w fun x31=>
 rN 29 3 x31 w fun x32=>
 LOOPI [33] [(iV 0)] w fun u8 w next8=>
 rC (u8 33) x32 w fun x34=>
 BR x34
 (rX 29 x31 (u8 33) w fun x35=>
 rL 94 x35 w fun x36=>
 oP (Instr.alloc 94 true (.tuple #[])) w fun x7 w=>
 oS 94 x7 x36 w fun w=>
 rL 31 x1 w fun x37=>
 rL 94 x7 w fun x38=>
 cL 86 [x37,x38,x23,x26] w fun x41 w=>
 rD (Op.unary .not x41) w fun x42=>
 BR x42
 (R (Value.bool false) w)
 (rA (u8 33) (iV 1) w fun x43=>
 next8 [x43] w))
 (rA (u4 19) (iV 1) w fun x44=>
 next4 [x44] w))
 (R (Value.bool true) w)))
def cfg44:Cfg:=⟨extL,[],[(4,35184371564732,[19]),(8,17583596109956,[33])],[],[],[],[]⟩
theorem F44_call {a0:Value} {w:World} {R:VW} (h:F44 a0 w R):cL 44 [a0] w R:=co (g:=cfg44) Tryz.func44 (by kernel_rfl) (by kernel_rfl) (by kernel_rfl) h
theorem zgs {w:World} {v0:Value} {W0:World} {c:DCode}  (h0:Is W0 v0 c) (e0:Ext W0 w)  :
   CALL Tryz.prog 44 [v0] w fun r w'=>Ext w w'∧(r=.bool (decide (CodeR c))):=by
 refine F44_call ?_
 unfold F44
 refine zaD zbt rfl h0 e0 fun w1_ hx1_ hA1 hV1=>?_
 refine zbC hV1 (Ext.refl w1_) ?_
 refine (zki h0 (e0.trans hx1_)).mono ?_
 rintro _ w2_ ⟨hx2_,rfl⟩
 refine zaz ?_
 refine br (fun c1=>?_) (fun c1=>?_)
 · refine ⟨(hx1_.trans hx2_),?_⟩
   have:¬CodeR c:=fun h=>c1 h.1
   simp only [this,decide_false]
 refine zbC hV1 hx2_ ?_
 refine (zim h0 (e0.trans (hx1_.trans hx2_)) (Decidable.not_not.1 c1).procs8.2).mono ?_
 rintro _ w3_ ⟨hx3_,rfl⟩
 refine zaz ?_
 refine br (fun c2=>?_) (fun c2=>?_)
 · refine ⟨(hx1_.trans (hx2_.trans hx3_)),?_⟩
   have:¬CodeR c:=fun h=>c2 ((zqd h.1.procs8.2).2 h.2.1)
   simp only [this,decide_false]
 refine zaa za1 ?_
 refine zac zbE (zap hA1) (hx2_.trans hx3_) fun v17 h17=>?_
 have hln18:=zam h17
 refine zag u23 h17 ?_
 refine zaq (c.entry.length) (fun q us w'=>us=[.int .i64 (q:Int)]∧Ext w3_ w'∧(∀ i,i<q→∀ j:Nat,en c i≤j→(j:Int)<zdh c i→zfX c (zal c j) (en c i) (zdh c i))) (0) (by omega) ⟨by simp,Ext.refl w3_,fun i h=>by omega⟩ ?_
 rintro q m4 uu4 w4_ hk4 ⟨hu,hx4_,hent⟩
 simp only [List.map_cons,List.map_nil,List.cons.injEq,and_true] at hu
 try rw [hu]
 try clear hu
 replace c1:=Decidable.not_not.1 c1;replace c2:=Decidable.not_not.1 c2;have hln4:=zam h17
 refine zah ?_
 refine br (fun c3=>?_) (fun c3=>?_)
 · refine zad u23 ty3 h17 (by omega) fun b22 o22 h22=>?_
   refine zab ty3 h22 (hx2_.trans (hx3_.trans hx4_)) fun hI23=>?_
   rw [zbe]
   have h8:=c1.procs8
   have hlq:=c2.f.lt q (by omega)
   have hnq:=c2.f.nonneg (i:=q) (by omega)
   have hlen:=c2.f.len
   refine zbC hV1 (hx2_.trans (hx3_.trans hx4_)) ?_
   refine (zcz h0 (e0.trans (hx1_.trans (hx2_.trans (hx3_.trans hx4_)))) (by omega)).mono ?_
   rintro _ w5_ ⟨hx5_,rfl⟩
   refine zaa zaJ ?_
   refine zac zct (zai hA1) (hx2_.trans (hx3_.trans (hx4_.trans hx5_))) fun v28 h28=>?_
   refine zj4 u29 zcb h28 (by omega) (by omega) (by omega) fun v31 h31=>?_
   have hln32:=zam h31
   refine zag u29 h31 ?_
   refine zaq ((zdh c q).toNat-(en c q).toNat) (fun k us w'=>us=[.int .i64 (k:Int)]∧Ext w5_ w'∧(∀ j:Nat,en c q≤j→(j:Int)<en c q+k→zfX c (zal c j) (en c q) (zdh c q))) (0) (by omega) ⟨by simp,Ext.refl w5_,fun j h1 h2=>by omega⟩ ?_
   rintro k m8 uu8 w6_ hk8 ⟨hu,hx6_,hinv⟩
   simp only [List.map_cons,List.map_nil,List.cons.injEq,and_true] at hu
   try rw [hu]
   try clear hu
   have hl31:((c.ins.take (zdh c q).toNat).drop (en c q).toNat).length=(zdh c q).toNat-(en c q).toNat:=by rw [List.length_drop,List.length_take];omega
   refine zah ?_
   refine br (fun c4=>?_) (fun c4=>?_)
   · refine zad u29 zcb h31 (by omega) fun b35 o35 h35=>?_
     refine zac zcb h35 (hx2_.trans (hx3_.trans (hx4_.trans (hx5_.trans hx6_)))) fun v36 h36=>?_
     rw [List.getElem_drop,List.getElem_take,zaF] at h36
     refine zbX zmj rfl zcb rfl h36 (hx2_.trans (hx3_.trans (hx4_.trans (hx5_.trans hx6_)))) fun w7_ hx7_ hA7 hV7=>?_
     refine zbC hV1 (hx2_.trans (hx3_.trans (hx4_.trans (hx5_.trans (hx6_.trans hx7_))))) ?_
     refine zbC hV7 (Ext.refl w7_) ?_
     refine (zmK h0 (e0.trans (hx1_.trans (hx2_.trans (hx3_.trans (hx4_.trans (hx5_.trans (hx6_.trans hx7_))))))) h36 (hx2_.trans (hx3_.trans (hx4_.trans (hx5_.trans (hx6_.trans hx7_)))))).mono ?_
     rintro _ w8_ ⟨hx8_,rfl⟩
     refine zaz ?_
     refine br (fun c5=>?_) (fun c5=>?_)
     · refine ⟨(hx1_.trans (hx2_.trans (hx3_.trans (hx4_.trans (hx5_.trans (hx6_.trans (hx7_.trans hx8_))))))),?_⟩
       have:¬CodeR c:=fun h=>c5 ((zlt c1 c2).1 h q (by omega) _ (by omega) (by omega))
       simp only [this,decide_false]
     refine zaf (by omega) ?_
     refine ⟨m8-1,by omega,k+1,by omega,by simp,(hx6_.trans (hx7_.trans hx8_)),?_⟩
     intro j h1 h2
     by_cases hj:j=(en c q).toNat+k
     · subst hj;exact Decidable.not_not.1 c5
     exact hinv j h1 (by omega)
   refine zaf (by omega) ?_
   refine ⟨m4-1,by omega,q+1,by omega,by simp,(hx4_.trans (hx5_.trans hx6_)),?_⟩
   intro i hi j h1 h2
   by_cases hiq:i=q
   · subst hiq;exact hinv j h1 (by omega)
   exact hent i (by omega) j h1 h2
 refine ⟨(hx1_.trans (hx2_.trans (hx3_.trans hx4_))),?_⟩
 have:CodeR c:=(zlt c1 c2).2 fun i hi=>hent i (by omega)
 simp only [this,decide_true]
theorem CodeR.f {c:DCode} (h:CodeR c):EntF c:=h.2.1.f h.1.procs8.2
def F149 (a0 a1:Value) (w:World) (R:VW):Prop:=
 oP (Instr.box 31 a0) w fun x2 w=>
 rB .geq 3 T0 U0 a1 (iV 0) w fun x6=>
 BR x6
 (rF 31 x2 4 w fun x9=>
 rL 29 x9 w fun x10=>
 rN 29 3 x10 w fun x11=>
 rC a1 x11 w fun x12=>
 R x12 w)
 (R (Value.bool false) w)
def cfg149:Cfg:=⟨extL,[],[],[],[],[],[]⟩
theorem F149_call {a0 a1:Value} {w:World} {R:VW} (h:F149 a0 a1 w R):cL 149 [a0,a1] w R:=co (g:=cfg149) Tryz.func149 (by kernel_rfl) (by kernel_rfl) (by kernel_rfl) h
theorem zoF {w:World} {v0:Value} {W0:World} {c:DCode} {a:Int}  (h0:Is W0 v0 c) (e0:Ext W0 w)  :
   CALL Tryz.prog 149 [v0,.int .i64 a] w fun r w'=>Ext w w'∧(r=.bool (decide (0≤a∧a<c.ins.length))):=by
 refine F149_call ?_
 unfold F149
 refine zaD zbt rfl h0 e0 fun w1_ hx1_ hA2 hV2=>?_
 refine zb9 ?_
 refine br (fun c1=>?_) (fun c1=>?_)
 · refine zaa zaJ ?_
   refine zac zct (zai hA2) (Ext.refl w1_) fun v10 h10=>?_
   have hln11:=zam h10
   refine zag u29 h10 ?_
   refine zah ?_
   refine ⟨hx1_,?_⟩
   simp [c1]
 refine ⟨hx1_,?_⟩
 simp [c1]
def F151 (a0 a1:Value) (w:World) (R:VW):Prop:=
 oP (Instr.box 31 a0) w fun x2 w=>
 LOOPI [5] [(iV 0)] w fun u2 w next2=>
 rA (u2 5) (iV 1) w fun x7=>
 rF 31 x2 3 w fun x8=>
 rL 23 x8 w fun x9=>
 rN 23 3 x9 w fun x10=>
 rC x7 x10 w fun x11=>
 BR x11
 (rF 31 x2 3 w fun x13=>
 rL 23 x13 w fun x14=>
 rA (u2 5) (iV 1) w fun x16=>
 rX 23 x14 x16 w fun x17=>
 rL 3 x17 w fun x18=>
 rB .leq 3 T0 T0 x18 a1 w fun x20=>
 BR x20
 (rA (u2 5) (iV 1) w fun x23=>
 next2 [x23] w)
 (R (u2 5) w))
 (R (u2 5) w)
def cfg151:Cfg:=⟨extL,[],[(2,16777184,[5])],[],[],[],[]⟩
theorem F151_call {a0 a1:Value} {w:World} {R:VW} (h:F151 a0 a1 w R):cL 151 [a0,a1] w R:=co (g:=cfg151) Tryz.func151 (by kernel_rfl) (by kernel_rfl) (by kernel_rfl) h
theorem zlu {w:World} {v0:Value} {W0:World} {c:DCode} {a:Int}  (h0:Is W0 v0 c) (e0:Ext W0 w) (hc:CodeR c) (ha:0≤a) (ha2:a<c.ins.length) :
   CALL Tryz.prog 151 [v0,.int .i64 a] w fun r w'=>Ext w w'∧(r=.int .i64 (zat c a)):=by
 refine F151_call ?_
 unfold F151
 have hf:=hc.f
 have h8:=hc.1.procs8
 have hl:=hf.len
 refine zaD zbt rfl h0 e0 fun w1_ hx1_ hA2 hV2=>?_
 refine zaq (c.entry.length-1) (fun k us w'=>us=[.int .i64 (k:Int)]∧Ext w1_ w'∧(en c k≤a)) (0) (by omega) ⟨by simp,Ext.refl w1_,by rw [hf.zero];exact ha⟩ ?_
 rintro k m2 uu2 w2_ hk2 ⟨hu,hx2_,hinv⟩
 simp only [List.map_cons,List.map_nil,List.cons.injEq,and_true] at hu
 try rw [hu]
 try clear hu
 refine zaf (by omega) ?_
 refine zaa za1 ?_
 refine zac zbE (zap hA2) hx2_ fun v9 h9=>?_
 have hln10:=zam h9
 refine zag u23 h9 ?_
 refine zah ?_
 refine br (fun c1=>?_) (fun c1=>?_)
 · refine zaa za1 ?_
   refine zac zbE (zap hA2) hx2_ fun v14 h14=>?_
   refine zaf (by omega) ?_
   refine zad u23 ty3 h14 (by omega) fun b17 o17 h17=>?_
   refine zab ty3 h17 hx2_ fun hI18=>?_
   refine zdw ?_
   refine br (fun c2=>?_) (fun c2=>?_)
   · refine zaf (by omega) ?_
     refine ⟨m2-1,by omega,k+1,by omega,by simp,hx2_,?_⟩
     rwa [zbe] at c2
   refine ⟨(hx1_.trans hx2_),?_⟩
   rw [zbe] at c2
   rw [hf.proc (i:=k) (by omega) hinv (by rw [hf.step (by omega)];omega)]
 refine ⟨(hx1_.trans hx2_),?_⟩
 rw [hf.proc (i:=k) (by omega) hinv (by rw [hf.last (by omega)];omega)]
def st (l:List Int) (i:Nat):Int:=l.getD i 0
def zqe (c:DCode) (l:List Int):Prop:=l.length≤8∧(∀ i,i<l.length→0≤st l i∧st l i<c.ins.length) ∧
 ∀ i,i<l.length-1→(zal c (st l i).toNat).op=4∧zat c (st l (i+1))=(zal c (st l i).toNat).arg
instance (c:DCode) (l:List Int):Decidable (zqe c l):=by unfold zqe;infer_instance
def znJ (c:DCode) (s:DState):Prop:=s.vars.length=c.globals.length∧s.owner.length=c.locks.length∧(1≤s.stacks.length∧s.stacks.length≤6)∧(∀ v∈s.vars,0≤v∧v≤999) ∧
 (∀ o∈s.owner,-1≤o∧o<s.stacks.length)∧∀ l∈s.stacks,zqe c l
instance (c:DCode) (s:DState):Decidable (znJ c s):=by unfold znJ;infer_instance
theorem znK {α:Type} {P:α→Prop} {l:List α} {k:Nat} (hk:k<l.length) (h:∀ x∈l.take k,P x) (hp:P l[k]):∀ x∈l.take (k+1),P x:=by
 intro x hx
 rw [List.take_succ_eq_append_getElem hk] at hx
 rcases List.mem_append.1 hx with hx | hx
 · exact h x hx
 simp only [List.mem_cons,List.not_mem_nil,or_false] at hx
 subst hx;exact hp
theorem zqf {α:Type} {P:α→Prop} {l:List α} {k:Nat} (hk:l.length≤k) (h:∀ x∈l.take k,P x):∀ x∈l,P x:=by
 rwa [List.take_of_length_le hk] at h
end Go.Proofs.YtbnjpfjjmhodnaaGreatDoor
