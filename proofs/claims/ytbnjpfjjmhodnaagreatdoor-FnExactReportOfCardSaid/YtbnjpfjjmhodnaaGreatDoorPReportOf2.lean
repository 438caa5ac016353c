/-
  Parts of the proof, put together by program.
-/
import Derived.Test.YtbnjpfjjmhodnaaGreatDoorPReportOf1
set_option linter.unusedVariables false
set_option linter.unusedSimpArgs false
set_option linter.unusedSectionVars false
namespace Go.Sh
open Go.RowKit (Below)
open Rep (rep)
theorem znv (off:Nat):∀ (l:List Value) (k:Nat) (cs:Array Value),
   ((l.zipIdx k).foldl (fun (cs:Array Value) (p:Value×Nat)=>cs.setIfInBounds (off+p.2) p.1) cs).size=cs.size ∧
   ∀ i,((l.zipIdx k).foldl (fun (cs:Array Value) (p:Value×Nat)=>cs.setIfInBounds (off+p.2) p.1) cs)[i]?=if off+k≤i∧i<off+k+l.length∧i<cs.size then l[i-(off+k)]? else cs[i]?
 | [],k,cs=>by
   refine ⟨rfl,fun i=>?_⟩
   rw [if_neg (by simp;omega)]
   rfl
 | v :: l,k,cs=>by
   obtain ⟨h1,h2⟩:=znv off l (k+1) (cs.setIfInBounds (off+k) v)
   simp only [List.zipIdx_cons,List.foldl_cons]
   refine ⟨by rw [h1];simp,fun i=>?_⟩
   rw [h2]
   simp only [Array.size_setIfInBounds,List.length_cons]
   by_cases hi:i=off+k
   · subst hi
     rw [if_neg (by omega)]
     by_cases hs:off+k<cs.size
     · rw [if_pos (by omega)];simp [hs]
     rw [if_neg (by omega),Array.getElem?_eq_none (by rw [Array.size_setIfInBounds];omega),Array.getElem?_eq_none (by omega)]
   by_cases hr:off+(k+1)≤i∧i<off+(k+1)+l.length∧i<cs.size
   · rw [if_pos hr,if_pos (by omega)]
     have:i-(off+k)=(i-(off+(k+1)))+1:=by omega
     rw [this,List.getElem?_cons_succ]
   rw [if_neg hr,if_neg (by omega),Array.getElem?_setIfInBounds_ne (by omega)]
theorem znw (v:Value) (cells:Array Value) (s:Nat) (hv:v.cells.size=s) (hc:cells.size=s):Instr.fill (fun i=>some (i*s,s)) cells [(0,v)]=some v.cells:=by
 unfold Instr.fill
 simp only [Nat.zero_mul]
 rw [if_neg (by simp;omega)]
 unfold Instr.fill
 congr 1
 obtain ⟨h1,h2⟩:=znv 0 v.cells.toList 0 cells
 have e:v.cells.zipIdx.foldl (fun (cs:Array Value) (x:Value×Nat)=>match x with | (c,j)=>cs.setIfInBounds (0+j) c) cells
     = (v.cells.toList.zipIdx 0).foldl (fun (cs:Array Value) (p:Value×Nat)=>cs.setIfInBounds (0+p.2) p.1) cells:=by
   rw [←Array.foldl_toList,Array.toList_zipIdx]
 rw [e]
 apply Array.ext_getElem?
 intro i
 rw [h2]
 by_cases hi:i<s
 · rw [if_pos (by simp;omega)];simp
 rw [if_neg (by simp;omega),Array.getElem?_eq_none (by omega),Array.getElem?_eq_none (by omega)]
section
variable {w w' w'':World} {lo hi a b:Nat}
end
def RowI {α:Type} [Rep α] (lo hi:Nat) (e:TypeId) (w:World) (v:Value) (l:List α):Prop:=(∃ a,v=.slice a 0 0∧l=[])∨∃ F,RowF F e w v l∧F.Nodup∧∀ b∈F,lo≤b∧b<hi
section
variable {P:Program} {w w0 w':World} {α:Type} [Rep α] {lo hi a b e:Nat} {v:Value} {l:List α}
theorem zkZ (a:Option Addr):OwnI (α:=List α) lo hi w (.slice a 0 0) []:=
 ⟨[],⟨⟨_,⟨a,0,[],[],rfl,Nat.le_refl _,Nat.zero_le _,⟨rfl,rfl⟩,.inl ⟨rfl,rfl⟩⟩,rfl⟩,List.nodup_nil,Wr.nil w⟩,by simp⟩
theorem RowI.ext (h:RowI lo hi e w v l) (hx:Ext w w'):RowI lo hi e w' v l:=by
 rcases h with h | ⟨F,h1,h2,h3⟩
 · exact .inl h
 exact .inr ⟨F,h1.ext hx,h2,h3⟩
theorem RowI.chg (h:RowI lo hi e w v l) (hc:ChgI a b w w') (hd:hi≤a∨b≤lo):RowI lo hi e w' v l:=by
 rcases h with h | ⟨F,h1,h2,h3⟩
 · exact .inl h
 exact .inr ⟨F,h1.keep fun c hcm=>hc.block c (h1.lt c hcm) (by have:=h3 c hcm;omega),h2,h3⟩
theorem RowI.own (h:RowI lo hi e w v l):OwnI lo hi w v l:=by
 rcases h with ⟨a,rfl,rfl⟩ | ⟨F,h1,h2,h3⟩
 · exact zkZ a
 exact ⟨F,⟨h1.own,h2,h1.wr⟩,h3⟩
theorem RowI.is (h:RowI lo hi e w v l):Is w v l:=h.own.is
theorem RowI.mono {lo' hi':Nat} (h:RowI lo hi e w v l) (h1:lo'≤lo) (h2:hi≤hi'):RowI lo' hi' e w v l:=by
 rcases h with h | ⟨F,h1,h2,h3⟩
 · exact .inl h
 exact .inr ⟨F,h1,h2,fun b hb=>by have:=h3 b hb;omega⟩
theorem zcf (lo hi e:Nat) (w:World) (a:Option Addr):RowI (α:=α) lo hi e w (.slice a 0 0) []:=.inl ⟨a,rfl,rfl⟩
theorem zcp (lo hi e:Nat) (w:World):RowI (α:=α) lo hi e w (.slice none 0 0) []:=.inl ⟨none,rfl,rfl⟩
theorem zhV (e:Nat) (w:World):RowF (α:=α) [] e w (.slice none 0 0) []:=⟨[],[],⟨by simp,.inl ⟨rfl,rfl⟩⟩,⟨rfl,rfl⟩,rfl,Wr.nil _⟩
theorem zj3 {m1 m2:Sem Value} {K:Value→World→Prop} (h:m1.run P w=m2.run P w) (k:OP P m2 w K):OP P m1 w K:=by
 obtain ⟨v,w',hr,hk⟩:=k;exact ⟨v,w',h.trans hr,hk⟩
theorem zfQ {t ty:TypeId} {by_ n c:Nat} {x:Addr} {b o:Nat} {xs:List Value} (ht:P.underlying t=some (.slice e)) (he:tyI P e=some (Rep.size α,by_,Rep.agg α)) (hzc:(P.info? e).map (fun i=>(i.zero.map (·.cells.size)))=some (some (Rep.size α)))
   (hl:xs.length=n*Rep.size α) (hr:w.rangeAt b o xs) (h0:0<n) (hm:n≤maxLen) (hb:n*by_≤140737488355328) :
   (Builtin.append_ #[t,t] ty #[.slice (some x) 0 0,.slice (some ⟨b,o,none⟩) n c]).run P w=(Builtin.append_ #[t,t] ty #[.slice none 0 0,.slice (some ⟨b,o,none⟩) n c]).run P w:=by
 obtain ⟨i,d,hi,hd,hs,hby,hg⟩:=zcE he
 simp only [hi,Option.map_some,Option.some.injEq] at hzc
 obtain ⟨z,hz,hzs⟩:=Option.map_eq_some_iff.1 hzc
 rw [zan] at hm
 have h1:=run_append_nil (P:=P) w t ty e i z ht hi hz ⟨b,o,none⟩ n c xs (by rw [hs];exact hl) (fun j u hu=>by rw [Addr.add_mid];exact hr j u hu) h0 (by omega) (by rw [hby];omega)
 have h2:=run_append_grow (P:=P) w t ty e i z ht hi hz x 0 0 [] (by simp) (by simp) ⟨b,o,none⟩ n c xs (by rw [hs];exact hl) (fun j u hu=>by rw [Addr.add_mid];exact hr j u hu) (by omega) (by omega) (growslice_fits (by omega) (by rw [hby];simpa using hb))
 rw [h1,h2]
 simp
theorem zgh {t:TypeId} {by_:Nat} {u:Value} {x:α} {K:Value→World→Prop} (ht:P.underlying t=some (.slice e)) (he:tyI P e=some (Rep.size α,by_,Rep.agg α)) (hz:zbm P e=true) (hsz:Rep.size α≤1000)
   {F:List Nat} (hx:Mine F w u x)
   (k:∀ w',Ext w w'→Mine (w.heap.size :: F) w' (.slice (some ⟨w.heap.size,0,none⟩) 1 1) [x]→K (.slice (some ⟨w.heap.size,0,none⟩) 1 1) w'):OP P (Instr.buildSlice t 1 #[(0,u)]) w K:=by
 obtain ⟨⟨cs,hr,rfl⟩,hn,hw⟩:=hx
 have hcl:=ze0 hr
 have hlen:=Rep.len hr
 have hvs:(mkv α cs).cells.size=Rep.size α:=by rw [←Array.length_toList,hcl,hlen]
 obtain ⟨i,d,hi,hd,hs,hby,hg⟩:=zcE he
 unfold zbm at hz
 rw [hi] at hz
 obtain ⟨z,hz⟩:=Option.isSome_iff_exists.1 hz
 have hpos:=Rep.pos (α:=α)
 refine ⟨_,w.alloc (.cells (mkv α cs).cells e),?_,k _ (zaP w _) ?_⟩
 · have hne:¬Rep.size α=0:=by omega
   have h24:¬2^24<Rep.size α:=by omega
   simp only [Instr.buildSlice,Sem.run_bind,run_underlying ht,Result.andThen_ok,zaW he,Nat.one_mul]
   simp [h24,hne,zeroValue,typeInfo,hi,hz,znw _ _ _ hvs,newRow]
 have hx:=zaP w (.cells (mkv α cs).cells e)
 have hB:(w.alloc (.cells (mkv α cs).cells e)).heap[w.heap.size]?=some (.cells (mkv α cs).cells e (0,0)):=heap_alloc_new w _
 have hFlt:=Rep.lt hr
 refine ⟨⟨_,⟨_,1,F,cs,rfl,Nat.le_refl _,by rw [zan];omega,Cells.single (zbZ hr hx),.inr ⟨w.heap.size,0,rfl,rfl,?_,?_⟩⟩,rfl⟩,?_,?_⟩
 · intro j y hy
   simp only [World.cell?,hB]
   rw [←hcl] at hy
   simpa using hy
 · exact (Array.getElem?_eq_some_iff.1 hB).1
 · exact List.nodup_cons.2 ⟨fun h=>by have:=hFlt _ h;omega,hn⟩
 intro c hc
 rcases List.mem_cons.1 hc with rfl | hc
 · exact ⟨_,_,hB⟩
 exact hw.ext hx c hc
theorem zoy {t:TypeId} {by_:Nat} {u:Value} {x:α} {K:Value→World→Prop} (ht:P.underlying t=some (.slice e)) (he:tyI P e=some (Rep.size α,by_,Rep.agg α)) (hz:zbm P e=true) (hsz:Rep.size α≤1000)
   (hx:OwnI lo hi w u x) (hlo:lo≤w.heap.size)
   (k:∀ v w',Ext w w'→OwnI lo w'.heap.size w' v [x]→K v w'):OP P (Instr.buildSlice t 1 #[(0,u)]) w K:=by
 obtain ⟨F,hm,hF⟩:=hx
 refine zgh ht he hz hsz hm fun w' hxx hm'=>k _ w' hxx ⟨_,hm',fun b hb=>⟨?_,hm'.lt b hb⟩⟩
 rcases List.mem_cons.1 hb with rfl | hb
 · exact hlo
 exact (hF b hb).1
theorem zaY {t:TypeId} {by_:Nat} {K:Value→World→Prop} (ht:P.underlying t=some (.slice e)) (he:tyI P e=some (Rep.size α,by_,Rep.agg α))
   (k:∀ a w',Ext w w'→RowI (α:=α) w'.heap.size w'.heap.size e w' (.slice (some a) 0 0) []→K (.slice (some a) 0 0) w'):OP P (Instr.buildSlice t 0 #[]) w K:=
 zgf (α:=α) ht he fun a w' hx hr=>k _ w' hx (zcf _ _ _ _ _)
theorem zrR {t ty:TypeId} {by_:Nat} {u:Value} {x:α} {lo2 hi2:Nat} {K C:Value→World→Prop} (ht:P.underlying t=some (.slice e)) (he:tyI P e=some (Rep.size α,by_,Rep.agg α)) (hz:zbm P e=true)
   (hzc:(P.info? e).map (fun i=>(i.zero.map (·.cells.size)))=some (some (Rep.size α))) (hsz:Rep.size α≤1000) (hv:RowI lo hi e w v l) (hlo:lo≤w.heap.size) (hx:OwnI lo2 hi2 w u x) (hl:hi≤lo2) (hl2:lo≤lo2) (hm:l.length+1≤maxLen) (hb:(l.length+1)*by_≤140737488355328)
   (k:∀ v' w',ChgI lo hi w w'→RowI lo w'.heap.size e w' v' (l++[x])→K v' w')
   (hC:∀ s w1,Ext w w1→OP P (Builtin.append_ #[t,t] ty [v,s].toArray) w1 K→C s w1):OP P (Instr.buildSlice t 1 #[(0,u)]) w C:=by
 obtain ⟨G,hmx,hG⟩:=hx
 refine zgh ht he hz hsz hmx fun w1 hx1 hm1=>?_
 obtain ⟨⟨cs,⟨a,cap,Fi,xs,rfl,h1,h2,hc,h4⟩,hveq⟩,hn1,hw1⟩:=hm1
 simp only [mkv,Rep.agg,cond_false,List.headD_cons,Value.slice.injEq,List.length_cons,List.length_nil] at hveq
 obtain ⟨rfl,_,rfl⟩:=hveq
 rcases h4 with ⟨h4,_⟩ | ⟨b,o,hab,hFe,hra,hbl⟩
 · simp at h4
 simp only [List.cons.injEq] at hFe
 obtain ⟨_,rfl⟩:=hFe
 have key:∀ (v:Value) (F:List Nat),RowF F e w v l→F.Nodup→(∀ b∈F,lo≤b∧b<hi)→OP P (Builtin.append_ #[t,t] ty [v,.slice (some ⟨w.heap.size,0,none⟩) 1 1].toArray) w1 K:=by
   intro v F hF hFn hFl
   have hF1:=hF.ext hx1
   have hd:(G++F).Nodup:=by
     rw [List.nodup_append]
     refine ⟨hmx.nodup,hFn,fun p hp q hq e=>?_⟩
     subst e
     have:=hG p hp
     have:=hFl p hq
     omega
   refine zgg (m:=[x]) ht he hzc hF1 hFn rfl hc (.inr ⟨b,o,hab,hra⟩) (hw1.sub (by simp +contextual)) hd (by simpa using hm) (by simpa using hb) fun v' w' F' hch hfull hr' hn' hs'=>?_
   have hown:∀ c∈v.ownBlock.toList,lo≤c∧c<hi:=fun c hc=>by
     obtain ⟨xs,Fi,_,_,rfl,_⟩:=hF
     exact hFl c (by simp only [List.mem_append];exact .inl hc)
   refine k v' w' ((Ext.toI hx1).trans (hch.toI hown)) (.inr ⟨F',hr',hn',fun c hc=>⟨?_,hr'.lt c hc⟩⟩)
   rcases hs' c hc with h | h | h
   · exact (hFl c h).1
   · have:=hG c h;omega
   have:=hx1.size;omega
 refine hC _ w1 hx1 ?_
 rcases hv with ⟨a0,rfl,rfl⟩ | ⟨F,hF,hFn,hFl⟩
 · have kn:=key (.slice none 0 0) [] (zhV e w) List.nodup_nil (by simp)
   cases a0 with
   | none=>exact kn
   | some x0=>
     simp only [Option.some.injEq,Addr.mk.injEq] at hab
     obtain ⟨rfl,rfl,_⟩:=hab
     exact zj3 (zfQ (α:=α) (n:=1) ht he hzc (by simpa using Cells.len hc) hra (by omega) (by rw [zan];omega) (by simpa using hb)) kn
 exact key v F hF hFn hFl
theorem zbK {t ty:TypeId} {by_:Nat} {u:Value} {x:α} {lo2 hi2:Nat} {K:Value→World→Prop} (ht:P.underlying t=some (.slice e)) (he:tyI P e=some (Rep.size α,by_,Rep.agg α)) (hz:zbm P e=true)
   (hzc:(P.info? e).map (fun i=>(i.zero.map (·.cells.size)))=some (some (Rep.size α))) (hsz:Rep.size α≤1000) (hv:RowI lo hi e w v l) (hlo:lo≤w.heap.size) (hx:OwnI lo2 hi2 w u x) (hl:hi≤lo2) (hl2:lo≤lo2) (hm:l.length+1≤maxLen) (hb:(l.length+1)*by_≤140737488355328)
   (k:∀ v' w',ChgI lo hi w w'→RowI lo w'.heap.size e w' v' (l++[x])→K v' w'):OP P (Instr.buildSlice t 1 #[(0,u)]) w fun s w1=>OP P (Builtin.append_ #[t,t] ty [v,s].toArray) w1 K:=
 zrR ht he hz hzc hsz hv hlo hx hl hl2 hm hb k fun _ _ _ h=>h
theorem zds [Flat α] {t ty:TypeId} {by_:Nat} {src:Value} {m:List α} {K:Value→World→Prop} (ht:P.underlying t=some (.slice e)) (he:tyI P e=some (Rep.size α,by_,Rep.agg α))
   (hzc:(P.info? e).map (fun i=>(i.zero.map (·.cells.size)))=some (some (Rep.size α))) (hv:RowI lo hi e w v l) (hlo:lo≤w.heap.size) (hs:Is w0 src m) (hx:Ext w0 w) (hm:l.length+m.length≤maxLen) (hb:(l.length+m.length)*by_≤140737488355328)
   (k:∀ v' w',ChgI lo hi w w'→RowI lo w'.heap.size e w' v' (l++m)→K v' w'):OP P (Builtin.append_ #[t,t] ty [v,src].toArray) w K:=by
 obtain ⟨a,cap,Fi,xs,rfl,h1,h2,hc,h4⟩:=zdb (hs.ext hx)
 have hFi:=Cells.flat (xs:=xs) hc
 subst hFi
 have key:∀ (v:Value) (F:List Nat),RowF F e w v l→F.Nodup→(∀ b∈F,lo≤b∧b<hi)→OP P (Builtin.append_ #[t,t] ty [v,.slice a m.length cap].toArray) w K:=by
   intro v F hF hFn hFl
   refine zgg (m:=m) ht he hzc hF hFn rfl hc (by rcases h4 with h | ⟨b,o,ha,hr,_⟩;exact .inl h;exact .inr ⟨b,o,ha,hr⟩) (Wr.nil _) (by simpa using hFn) hm hb fun v' w' F' hch hfull hr' hn' hs'=>?_
   have hown:∀ c∈v.ownBlock.toList,lo≤c∧c<hi:=fun c hc=>by
     obtain ⟨xs,Fi,_,_,rfl,_⟩:=hF
     exact hFl c (by simp only [List.mem_append];exact .inl hc)
   refine k v' w' (hch.toI hown) (.inr ⟨F',hr',hn',fun c hc=>⟨?_,hr'.lt c hc⟩⟩)
   rcases hs' c hc with h | h | h
   · exact (hFl c h).1
   · simp at h
   omega
 rcases hv with ⟨a0,rfl,rfl⟩ | ⟨F,hF,hFn,hFl⟩
 · have kn:=key (.slice none 0 0) [] (zhV e w) List.nodup_nil (by simp)
   cases a0 with
   | none=>exact kn
   | some x0=>
     by_cases hm0:m=[]
     · subst hm0
       refine ⟨.slice (some x0) 0 0,w,?_,k _ w (ChgI.refl w) (zcf _ _ _ _ _)⟩
       have hf:(Builtin.firstCells (Rep.size α) 0 (.slice a 0 cap)).run P w=.ok #[] w:=by
         cases a with
         | none=>rfl
         | some a=>simp [Builtin.firstCells,loadCells,loadCellsFrom]
       simp [Builtin.append_,run_underlying ht,zaW he,Builtin.lenOf,hf,storeCells]
     rcases h4 with h | ⟨b,o,rfl,hr,_⟩
     · exact absurd h hm0
     exact zj3 (zfQ (α:=α) ht he hzc (Cells.len hc) hr (List.length_pos_iff.2 hm0) (by simpa using hm) (by simpa using hb)) kn
 exact key v F hF hFn hFl
theorem zpE {a:Option Addr} {cap:Nat} {l:List α} (h:Is w (.slice a l.length cap) l) (k:Nat) (hk:k≤l.length):Is w (.slice a k cap) (l.take k):=by
 obtain ⟨F,cs,⟨a',cap',Fi,xs,rfl,h1,h2,hc,h4⟩,hv⟩:=h
 simp only [mkv,Rep.agg,cond_false,List.headD_cons,Value.slice.injEq] at hv
 obtain ⟨rfl,_,rfl⟩:=hv
 have e:l=l.take k++l.drop k:=by simp
 have hlen:(l.take k).length=k:=by simp;omega
 rw [e] at hc
 obtain ⟨F1,F2,x1,x2,rfl,rfl,c1,c2⟩:=Cells.split hc
 by_cases hd:l.take k=[]
 · refine ⟨[],_,⟨a,cap,F1,x1,rfl,by rw [hlen];omega,h2,c1,.inl ⟨hd,rfl⟩⟩,?_⟩
   rw [hlen];rfl
 rcases h4 with ⟨rfl,_⟩ | ⟨b,o,rfl,rfl,hr,hb⟩
 · simp at hd
 refine ⟨_,_,⟨some ⟨b,o,none⟩,cap,F1,x1,rfl,by rw [hlen];omega,h2,c1,.inr ⟨b,o,rfl,rfl,(zaU hr).1,hb⟩⟩,?_⟩
 rw [hlen];rfl
theorem zhW {t:TypeId} {by_:Nat} {v:Value} {l:List α} {i:Int} {K:Value→Prop} (ht:P.underlying t=some (.slice e)) (he:tyI P e=some (Rep.size α,by_,Rep.agg α)) (h:Is w0 v l) (h0:0≤i) (h1:i.toNat≤l.length)
   (k:∀ v',Is w0 v' (l.take i.toNat)→K v'):RD P (Instr.sliceAt t v none (some (.int .i64 i)) none) w K:=by
 obtain ⟨a,cap,Fi,xs,rfl,hc1,hcm,_,h4⟩:=zdb h
 have hb:∀ w',(Instr.sliceBounds true l.length cap none (some (.int .i64 i)) none).run P w'=.ok (0,i.toNat,cap) w':=fun w'=>by
   have:i≤(cap:Int):=by omega
   simp [Instr.sliceBounds,Instr.sliceBound,asIntOf,h0,this]
 refine za0 (v:=.slice a i.toNat cap) (fun w' _=>?_) (k _ (zpE h i.toNat h1))
 have hz:(if cap=0 then a else a.map (fun x=>x.add (0*Rep.size α)))=a:=by
   split
   · rfl
   cases a<;>simp [Addr.add_mid,Addr.add]
 simp only [Instr.sliceAt,Instr.slice,Sem.run_bind,run_underlying ht,Result.andThen_ok,hb,zaW he]
 simp
 exact fun _=>by cases a<;>simp [Addr.add_mid,Addr.add]
theorem zj4 {t:TypeId} {by_:Nat} {v:Value} {l:List α} {i j:Int} {K:Value→Prop} (ht:P.underlying t=some (.slice e)) (he:tyI P e=some (Rep.size α,by_,Rep.agg α)) (h:Is w0 v l) (h0:0≤i) (h1:i≤j) (h2:j.toNat≤l.length)
   (k:∀ v',Is w0 v' ((l.take j.toNat).drop i.toNat)→K v'):RD P (Instr.sliceAt t v (some (.int .i64 i)) (some (.int .i64 j)) none) w K:=by
 obtain ⟨a,cap,Fi,xs,rfl,hc1,hcm,_,h4⟩:=zdb h
 have hb:∀ w',(Instr.sliceBounds true l.length cap (some (.int .i64 i)) (some (.int .i64 j)) none).run P w'=.ok (i.toNat,j.toNat,cap) w':=fun w'=>by
   have h3:j≤(cap:Int):=by omega
   have h5:0≤j:=by omega
   simp [Instr.sliceBounds,Instr.sliceBound,asIntOf,h0,h1,h3,h5]
   intro h6
   omega
 have hl:(l.take j.toNat).length=j.toNat:=by rw [List.length_take];omega
 have ht1:Is w0 (.slice a (l.take j.toNat).length cap) (l.take j.toNat):=by rw [hl];exact zpE h j.toNat h2
 have hd:=zpC ht1 i.toNat (by omega) (Rep.size α) rfl
 rw [hl] at hd
 refine za0 (fun w' _=>?_) (k _ hd)
 simp only [Instr.sliceAt,Instr.slice,Sem.run_bind,run_underlying ht,Result.andThen_ok,hb,zaW he]
 simp
def AtB {α:Type} [Rep α] (W w:World) (b o:Nat) (x:α):Prop:=∃ F cs,rep F W cs x∧w.rangeAt b o cs
theorem AtB.keep {W w':World} {b o:Nat} {x:α} (h:AtB W w b o x) (hb:w'.heap[b]?=w.heap[b]?):AtB W w' b o x:=by
 obtain ⟨F,cs,hr,ha⟩:=h;exact ⟨F,cs,hr,zcv ha hb⟩
theorem AtB.ext {W:World} {b o:Nat} {x:α} (h:AtB W w b o x) (hx:Ext w w'):AtB W w' b o x:=by
 obtain ⟨F,cs,hr,ha⟩:=h;exact ⟨F,cs,hr,zbg ha hx⟩
theorem AtB.at {W:World} {b o:Nat} {x:α} (h:AtB W w b o x) (hx:Ext W w):At w b o x:=by
 obtain ⟨F,cs,hr,ha⟩:=h;exact ⟨F,cs,zbZ hr hx,ha⟩
theorem AtB.snd {β:Type} [Rep β] {W:World} {b o:Nat} {p:α×β} (h:AtB W w b o p):AtB W w b (o+Rep.size α) p.2:=by
 obtain ⟨F,cs,⟨F1,F2,c1,c2,rfl,rfl,h1,h2⟩,hr⟩:=h
 have:=(zaU hr).2
 rw [Rep.len h1] at this
 exact ⟨F2,c2,h2,this⟩
theorem zk0 {W:World} {t by_ b o:Nat} {x:α} {K:Value→Prop} (ht:tyI P t=some (Rep.size α,by_,Rep.agg α)) (h:AtB W w0 b o x) (hW:Ext W w0) (hx:Ext w0 w) (k:∀ v,Is W v x→K v) :
   RD P (Instr.loadAt t (.pointer (some ⟨b,o,none⟩))) w K:=by
 obtain ⟨F,cs,hr,hc⟩:=h
 exact za0 (fun w' hx'=>zdx ht (zbZ hr (hW.trans (hx.trans hx'))) (zbg hc (hx.trans hx'))) (k _ ⟨F,cs,hr,rfl⟩)
theorem ze1 {W w1:World} {g:Nat} {x:α} {t:TypeId} (h:Is W v x) (hV:Var P t w1 g v) (ha:Rep.agg α=true):AtB W w1 g 0 x:=by
 obtain ⟨F,cs,hr,rfl⟩:=h
 obtain ⟨e,cs',_,hB,hv,_⟩:=hV
 have:cs'=cs:=by
   simp only [mkv,ha,cond_true,Value.agg.injEq] at hv
   have:=congrArg Array.toList hv
   simpa using this.symm
 subst this
 exact ⟨F,_,hr,hB.range⟩
theorem zpF [RepZ α] {t:TypeId} {fs:Array Field} {K:Value→Prop} (hu:P.underlying t=some (.struct fs)) (hz:zcm P t=some (RepZ.zc α)) (hf:(fs.toList.all fun f=>(P.info? f.type).isSome)=true) (ha:Rep.agg α=true)
   (k:∀ v,Is w v (RepZ.zv:α)→K v):RD P (Instr.build t #[]) w K:=by
 unfold zcm at hz
 cases hi:P.info? t with
 | none=>simp [hi] at hz
 | some i=>
   simp only [hi] at hz
   obtain ⟨z,hz',hzc⟩:=Option.map_eq_some_iff.1 hz
   have hm:∀ w',∃ ps,(fs.mapM fun f=>do pure (f.offset,←sizeOf f.type):Sem (Array (Nat×Nat))).run P w'=.ok ps w':=by
     intro w'
     have:∀ l:List Field,(l.all fun f=>(P.info? f.type).isSome)=true→∃ ps,(l.mapM fun f=>do pure (f.offset,←sizeOf f.type):Sem (List (Nat×Nat))).run P w'=.ok ps w':=by
       intro l
       induction l with
       | nil=>intro _;exact ⟨[],by simp⟩
       | cons f l ih=>
         intro h
         simp only [List.all_cons,Bool.and_eq_true] at h
         obtain ⟨j,hj⟩:=Option.isSome_iff_exists.1 h.1
         obtain ⟨ps,hps⟩:=ih h.2
         have hsz:(sizeOf f.type).run P w'=.ok j.size w':=by simp [sizeOf,typeInfo,hj]
         exact ⟨(f.offset,j.size) :: ps,by simp only [List.mapM_cons,Sem.run_bind,hsz,Result.andThen_ok,Sem.run_pure,hps]⟩
     obtain ⟨ps,hps⟩:=this fs.toList hf
     exact ⟨ps.toArray,by rw [Array.mapM_eq_mapM_toList];simp only [map_eq_pure_bind,Sem.run_bind,hps,Result.andThen_ok,Sem.run_pure]⟩
   refine za0 (v:=mkv α (RepZ.zc α)) (fun w' _=>?_) (k _ ⟨[],_,RepZ.zr w,rfl⟩)
   obtain ⟨ps,hps⟩:=hm w'
   have e:z.cells=(RepZ.zc α).toArray:=by rw [←hzc]
   have hzv:(zeroValue t).run P w'=.ok z w':=by simp [zeroValue,typeInfo,hi,hz']
   simp only [Instr.build,Sem.run_bind,hzv,Result.andThen_ok,run_underlying hu,hps]
   simp [Instr.fill,mkv,ha,e]
end
end Go.Sh
namespace Go.Sh
open Go.RowKit (Below)
open Rep (rep)
section
variable {P:Program} {w w0 w':World} {α β γ:Type} [Rep α] [Rep β]
theorem zdP {t e:TypeId} {by_:Nat} {F:List Nat} {v:Value} {l:List α} {k:Nat} {K:Value→Prop} (ht:P.underlying t=some (.slice e)) (he:tyI P e=some (Rep.size α,by_,Rep.agg α)) (hm:Mine F w v l) (hk:k<l.length)
   (kk:∀ b o G,Lens (MH v) F w b o G l[k] (fun y=>l.set k y)→K (.pointer (some ⟨b,o,none⟩))):RD P (Instr.indexAt t v (.int .i64 (k:Int))) w K:=by
 obtain ⟨b,a,cap,G,hv,hL⟩:=zuM hm hk
 refine za0 (v:=.pointer (some ⟨b,a+k*Rep.size α,none⟩)) (fun w' _=>?_) (kk _ _ _ hL)
 rw [hv,zcw ht he (by omega) (by omega)];simp
theorem zhX {ft by_ b o:Nat} {H:List Nat→World→γ→Prop} {F G:List Nat} {l:List β} {upd:List β→γ} {K:Value→Prop} (hft:tyI P ft=some (1,by_,false)) (hL:Lens H F w b o G l upd)
   (k:∀ u,Mine G w u l→(∀ c∈G,c∈F)→(∀ w' G' l',Chg G w w'→Mine G' w' u l'→(∀ c∈G',c∈G∨c∉F)→∃ F',H F' w' (upd l')∧∀ c∈F',c∈F∨c∈G')→K u) :
   RD P (Instr.loadAt ft (.pointer (some ⟨b,o,none⟩))) w K:=by
 obtain ⟨u,hM,hr,hG,hb⟩:=hL.row
 refine za0 (fun w' hx'=>?_) (k u hM hG hb)
 have h0:w'.cell? ⟨b,o,none⟩=some u:=by simpa using (zbg hr hx') 0 u rfl
 have hA:=zbI hft w'
 simp [Instr.loadAt,Instr.sureAddr,loadVar,hA,h0]
theorem zay {ft by_ g e o:Nat} {cs:List Value} {v:Value} {K:Value→Prop} (hft:tyI P ft=some (1,by_,false)) (hB:Blk g e w cs) (ho:cs[o]?=some v) (k:K v) :
   RD P (Instr.loadAt ft (.pointer (some ⟨g,o,none⟩))) w K:=by
 refine za0 (fun w' hx'=>?_) k
 have h0:w'.cell? ⟨g,o,none⟩=some v:=by simpa using (zbg hB.range hx') o v ho
 have hA:=zbI hft w'
 simp [Instr.loadAt,Instr.sureAddr,loadVar,hA,h0]
theorem zpG {t:TypeId} {cs:Array Value} {K:Value→World→Prop} (k:∀ w',Ext w w'→Blk w.heap.size t w' cs.toList→K (.pointer (some ⟨w.heap.size,0,none⟩)) w'):OP P (Instr.box t (.agg cs)) w K:=
 ⟨_,w.alloc (.cells cs t),by simp [Instr.box,newVar,newRow,Value.cells],k _ (zaP w _) (by unfold Blk;rw [heap_alloc_new w _])⟩
theorem zdz {t by_ b o:Nat} {F G:List Nat} {v:Value} {y y':β} {upd:β→α} {u:Value} {K:World→Prop} (ht:tyI P t=some (Rep.size β,by_,Rep.agg β)) (h:Lens (MH v) F w b o G y upd)
   (hu:Mine [] w u y') (k:∀ w' F',Chg F w w'→Mine F' w' v (upd y')→(∀ c∈F',c∈F)→K w'):OPU P (Instr.storeAt t (.pointer (some ⟨b,o,none⟩)) u) w K:=
 zrP ht h hu (by simp) fun w' hc ⟨F',h1,h2⟩=>k w' F' hc h1 fun c hc=>by
   rcases h2 c hc with h | h
   · exact h
   simp at h
theorem zcq {x:Int} (h:I64 x):Mine [] w (.int .i64 x) x:=⟨⟨_,⟨rfl,rfl,h⟩,rfl⟩,List.nodup_nil,Wr.nil w⟩
theorem zhY {x:Bool}:Mine [] w (.bool x) x:=⟨⟨_,⟨rfl,rfl⟩,rfl⟩,List.nodup_nil,Wr.nil w⟩
theorem zuN {ts:Array TypeId} {ty:TypeId} {a b:Int} {K:Value→Prop} (k:K (.int .i64 (max a b))):RD P (Builtin.max_ ts ty [Value.int .i64 a,Value.int .i64 b].toArray) w K:=by
 refine za0 (fun w' _=>?_) k
 have:(if b>a then b else a)=max a b:=by split<;>omega
 simp only [Builtin.max_,List.toList_toArray,List.foldlM_cons,List.foldlM_nil,Builtin.max2,this]
 rfl
theorem zuO {ts:Array TypeId} {ty:TypeId} {a b:Int} {K:Value→Prop} (k:K (.int .i64 (min a b))):RD P (Builtin.min_ ts ty [Value.int .i64 a,Value.int .i64 b].toArray) w K:=by
 refine za0 (fun w' _=>?_) k
 have:(if b<a then b else a)=min a b:=by split<;>omega
 simp only [Builtin.min_,List.toList_toArray,List.foldlM_cons,List.foldlM_nil,Builtin.min2,this]
 rfl
theorem zuP {t e ft i off by_ by2:Nat} {F:List Nat} {v u:Value} {l:List α} {k:Nat} {y':β} {sel:α→β} {g:α→β→α} {K:World→Prop} (ht:P.underlying t=some (.slice e)) (he:tyI P e=some (Rep.size α,by_,Rep.agg α)) (hf:zc2 P e i=some off) (hft:tyI P ft=some (Rep.size β,by2,Rep.agg β))
   (L:∀ {a:α} {G:List Nat} {b o:Nat} {upd:α→List α},Lens (MH v) F w b o G a upd→∃ G1,Lens (MH v) F w b (o+off) G1 (sel a) (fun y=>upd (g a y))) (hm:Mine F w v l) (hk:k<l.length) (hu:Mine [] w u y')
   (kk:∀ w' F',Chg F w w'→Mine F' w' v (l.set k (g l[k] y'))→(∀ c∈F',c∈F)→K w') :
   RD P (Instr.indexAt t v (.int .i64 (k:Int))) w fun p=>RD P (Instr.fieldAt e p i) w fun q=>OPU P (Instr.storeAt ft q u) w K:=by
 refine zdP ht he hm hk fun b o G hL=>?_
 refine zaa hf ?_
 obtain ⟨G1,hL1⟩:=L hL
 exact zdz (upd:=fun y=>l.set k (g l[k] y)) hft hL1 hu kk
end
end Go.Sh
namespace Go.Sh
open Rep (rep)
section
variable {w:World} {b o:Nat}
end
structure DRace where
 g:Int
 a:Int
 b:Int
theorem DRace.ext_iff {x y:DRace}:x=y↔(x.g=y.g∧x.a=y.a∧x.b=y.b):=⟨fun h=>by rw [h];exact ⟨rfl,rfl,rfl⟩,fun h=>by obtain ⟨h0,h1,h2⟩:=h;cases x;cases y;simp only at h0 h1 h2;simp only [h0,h1,h2]⟩
instance:DecidableEq DRace:=fun x y=>decidable_of_iff (x.g=y.g∧x.a=y.a∧x.b=y.b) DRace.ext_iff.symm
instance:Rep DRace:=Rep.via fun x=>(x.g,x.a,x.b)
theorem zcS {w:World} {b o:Nat} {x:DRace} (h:At w b o x):At w b (o+0) x.g:=zcF (α:=Int) (β:=Int×Int) (p:=(x.g,x.a,x.b)) h
theorem zdt {w:World} {b o:Nat} {x:DRace} (h:At w b o x):At w b (o+1) x.a:=zcF (α:=Int) (β:=Int) (p:=(x.a,x.b)) (zbq (α:=Int) (β:=Int×Int) (p:=(x.g,x.a,x.b)) h)
theorem zfi {w:World} {b o:Nat} {x:DRace} (h:At w b o x):At w b (o+2) x.b:=zbq (α:=Int) (β:=Int) (p:=(x.a,x.b)) (zbq (α:=Int) (β:=Int×Int) (p:=(x.g,x.a,x.b)) h)
instance:RepZ DRace:=⟨⟨(RepZ.zv:Int),(RepZ.zv:Int),(RepZ.zv:Int)⟩,RepZ.zc (Int×Int×Int),fun w=>RepZ.zr (α:=Int×Int×Int) w⟩
instance:Flat DRace:=⟨fun h=>Flat.flat (α:=Int×Int×Int) h⟩
structure DState where
 vars:List Int
 owner:List Int
 stacks:List (List Int)
theorem DState.ext_iff {x y:DState}:x=y↔(x.vars=y.vars∧x.owner=y.owner∧x.stacks=y.stacks):=⟨fun h=>by rw [h];exact ⟨rfl,rfl,rfl⟩,fun h=>by obtain ⟨h0,h1,h2⟩:=h;cases x;cases y;simp only at h0 h1 h2;simp only [h0,h1,h2]⟩
instance:DecidableEq DState:=fun x y=>decidable_of_iff (x.vars=y.vars∧x.owner=y.owner∧x.stacks=y.stacks) DState.ext_iff.symm
instance:Rep DState:=Rep.via fun x=>(x.vars,x.owner,x.stacks)
instance:RepZ DState:=⟨⟨(RepZ.zv:List Int),(RepZ.zv:List Int),(RepZ.zv:List (List Int))⟩,RepZ.zc ((List Int)×(List Int)×(List (List Int))),fun w=>RepZ.zr (α:=(List Int)×(List Int)×(List (List Int))) w⟩
section
variable {w:World} {b o:Nat}
theorem zgP {v:Value} {x:DRace}:Is w v x↔v=.agg #[.int .i64 x.g,.int .i64 x.a,.int .i64 x.b]∧I64 x.g∧I64 x.a∧I64 x.b:=by
 constructor
 · rintro ⟨F,cs,⟨F1,F2,c1,c2,rfl,rfl,⟨rfl,rfl,h1⟩,⟨F3,F4,c3,c4,rfl,rfl,⟨rfl,rfl,h2⟩,⟨rfl,rfl,h3⟩⟩⟩,rfl⟩
   exact ⟨rfl,h1,h2,h3⟩
 rintro ⟨rfl,h1,h2,h3⟩
 exact ⟨[],[.int .i64 x.g,.int .i64 x.a,.int .i64 x.b],⟨[],[],[.int .i64 x.g],[.int .i64 x.a,.int .i64 x.b],rfl,rfl,⟨rfl,rfl,h1⟩,[],[],[.int .i64 x.a],[.int .i64 x.b],rfl,rfl,⟨rfl,rfl,h2⟩,⟨rfl,rfl,h3⟩⟩,rfl⟩
theorem zpH {x:DRace} (h1:I64 x.g) (h2:I64 x.a) (h3:I64 x.b):Mine [] w (.agg #[.int .i64 x.g,.int .i64 x.a,.int .i64 x.b]) x:=
 ⟨⟨[.int .i64 x.g,.int .i64 x.a,.int .i64 x.b],⟨[],[],[.int .i64 x.g],[.int .i64 x.a,.int .i64 x.b],rfl,rfl,⟨rfl,rfl,h1⟩,[],[],[.int .i64 x.a],[.int .i64 x.b],rfl,rfl,⟨rfl,rfl,h2⟩,⟨rfl,rfl,h3⟩⟩,rfl⟩,List.nodup_nil,Wr.nil w⟩
end
end Go.Sh
namespace Go.Sh
open Rep (rep)
section
variable {P:Program} {w w0:World} {α:Type} [Rep α]
theorem zk1 [RepZ α] {z:Value} (hz:RepZ.zc α=[z]) (w:World):∀ n,Cells [] w (List.replicate n z) (List.replicate n (RepZ.zv:α))
 | 0=>⟨rfl,rfl⟩
 | n+1=>⟨[],[],[z],List.replicate n z,rfl,rfl,hz▸RepZ.zr w,zk1 hz w n⟩
theorem zrS (z:Value) (n:Nat):(madeCells #[z] n).toList=List.replicate n z:=by
 apply List.ext_getElem
 · simp [madeCells]
 intro i h1 h2
 simp [madeCells,Nat.mod_one]
theorem zfj [RepZ α] {t e:TypeId} {by_:Nat} {z:Value} {K:Value→World→Prop} {n:Nat} (ht:P.underlying t=some (.slice e)) (he:tyI P e=some (Rep.size α,by_,Rep.agg α)) (h1:Rep.size α=1) (hzc:RepZ.zc α=[z]) (hz:zcm P e=some [z])
   (hb:by_*n≤281474976710656) (hm:n≤9223372036854775807)
   (k:∀ w',Ext w w'→RowI w.heap.size w'.heap.size e w' (.slice (some ⟨w.heap.size,0,none⟩) n n) (List.replicate n (RepZ.zv:α))→K (.slice (some ⟨w.heap.size,0,none⟩) n n) w') :
   OP P (Instr.makeSlice t (.int .i64 (n:Int)) (.int .i64 (n:Int))) w K:=by
 obtain ⟨i,d,hi,hd,hs,hby,hg⟩:=zcE he
 unfold zcm at hz
 rw [hi] at hz
 obtain ⟨zz,hzz,hcz⟩:=Option.map_eq_some_iff.1 hz
 have hb':(i.bytes:Int)*(n:Int)≤281474976710656:=by
   have h:((i.bytes*n:Nat):Int)≤281474976710656:=by rw [hby];omega
   rwa [Int.natCast_mul] at h
 have hr:=run_make (P:=P) w t e i zz ht hi hzz .i64 .i64 n n (by omega) (Int.le_refl _) hb' (by omega)
 simp only [Int.toNat_natCast] at hr
 have hcells:zz.cells=#[z]:=by apply Array.ext';simpa using hcz
 have hlen:n*i.size=n:=by rw [hs,h1,Nat.mul_one]
 rw [hcells,hlen] at hr
 refine ⟨_,_,hr,k _ (zaP w _) (.inr ⟨[w.heap.size],⟨List.replicate n z,[],⟨?_,.inr ⟨w.heap.size,n,madeCells #[z] n,?_,Nat.zero_le _,heap_alloc_new w _,by simp,by rw [zan];omega,?_,?_⟩⟩,zk1 hzc _ n,rfl,Wr.nil _⟩,by simp,?_⟩)⟩
 · simp [h1]
 · simp
 · rw [h1];simp [madeCells]
 · rw [zrS,List.length_replicate,h1,Nat.mul_one,List.take_of_length_le (by simp)]
 intro b hb
 simp only [List.mem_cons,List.not_mem_nil,or_false] at hb
 subst hb
 exact ⟨Nat.le_refl _,(Array.getElem?_eq_some_iff.1 (heap_alloc_new w _)).1⟩
theorem zca {K:Value→Prop} {t:TypeId} {parts:Array (Nat×Value)} {cells:Array Value} (h:P.built t parts.toList=some cells) (k:K (.agg cells)):RD P (Instr.build t parts) w K:=
 za0 (fun w' _=>run_build w' t parts cells h) k
theorem zcG {t by_ g e o:Nat} {cs:List Value} {u:Value} {lo hi:Nat} {x:α} {K:World→Prop} (ht:tyI P t=some (1,by_,false)) (h1:Rep.size α=1) (ha:Rep.agg α=false) (hB:Blk g e w cs) (ho:o<cs.length) (hu:OwnI lo hi w u x)
   (k:∀ w',ChgI g (g+1) w w'→Blk g e w' (cs.set o u)→K w'):OPU P (Instr.storeAt t (.pointer (some ⟨g,o,none⟩)) u) w K:=by
 obtain ⟨F,⟨⟨cs',hr,hv⟩,_⟩,_⟩:=hu
 have hl':=Rep.len hr
 rw [h1] at hl'
 obtain ⟨c,rfl⟩:=List.length_eq_one_iff.1 hl'
 have huc:u=c:=by simpa [mkv,ha] using hv
 subst huc
 refine ztJ (by rw [h1,ha];exact ht) hB hr hv (by omega) fun w' hc hB'=>k w' (hc.toI (by simp)) ?_
 have:cs.set o u=cs.take o++[u]++cs.drop (o+1):=by
   rw [List.set_eq_take_append_cons_drop,if_pos ho];simp
 rw [this];exact hB'
theorem Blk.chgI {g e a b:Nat} {w':World} {cs:List Value} (h:Blk g e w cs) (hc:ChgI a b w w') (hd:g<a∨b≤g):Blk g e w' cs:=h.keep (hc.block g h.lt hd)
end
end Go.Sh
namespace Go.Sh
open Rep (rep)
def RowG {α:Type} [Rep α] (F:List Nat) (e:TypeId) (w:World) (v:Value) (l:List α):Prop:=(∃ a,v=.slice a 0 0∧l=[]∧F=[])∨RowF F e w v l
section
variable {P:Program} {w w0 w':World} {α β γ:Type} [Rep α] [Rep β] {e lo hi:Nat} {v:Value} {l:List α} {F:List Nat}
theorem RowG.lt (h:RowG F e w v l):∀ b∈F,b<w.heap.size:=by
 rcases h with ⟨a,_,_,rfl⟩ | h
 · simp
 exact h.lt
theorem RowG.keep (h:RowG F e w v l) (hk:∀ b∈F,w'.heap[b]?=w.heap[b]?):RowG F e w' v l:=by
 rcases h with h | h
 · exact .inl h
 exact .inr (h.keep hk)
theorem RowG.own (h:RowG F e w v l):OwnF F w v l:=by
 rcases h with ⟨a,rfl,rfl,rfl⟩ | h
 · exact ⟨_,⟨a,0,[],[],rfl,Nat.le_refl _,Nat.zero_le _,⟨rfl,rfl⟩,.inl ⟨rfl,rfl⟩⟩,rfl⟩
 exact h.own
theorem RowG.wr (h:RowG F e w v l):Wr F w:=by
 rcases h with ⟨a,_,_,rfl⟩ | h
 · exact Wr.nil w
 exact h.wr
theorem RowG.one (h:RowG F e w v l):v.oneCell'=true:=by
 obtain ⟨cs,⟨a,cap,Fi,xs,rfl,_⟩,rfl⟩:=h.own
 rfl
theorem zhz:RowI lo hi e w v l↔∃ F,RowG F e w v l∧F.Nodup∧∀ b∈F,lo≤b∧b<hi:=by
 constructor
 · rintro (⟨a,h1,h2⟩ | ⟨F,h1,h2,h3⟩)
   · exact ⟨[],.inl ⟨a,h1,h2,rfl⟩,List.nodup_nil,by simp⟩
   exact ⟨F,.inr h1,h2,h3⟩
 rintro ⟨F,(⟨a,h1,h2,_⟩ | h1),h2',h3⟩
 · exact .inl ⟨a,h1,h2⟩
 exact .inr ⟨F,h1,h2',h3⟩
end
structure RV (α:Type) (e:TypeId) where
 v:Value
 l:List α
instance {α:Type} [Rep α] {e:TypeId}:Rep (RV α e) where
 size:=1
 agg:=false
 rep F w cs x:=cs=[x.v]∧RowG F e w x.v x.l
 pos:=by decide
 sz _:=rfl
 len:=by rintro _ _ _ _ ⟨rfl,_⟩;rfl
 one:=by rintro _ _ _ _ ⟨rfl,h⟩ v hv;simp at hv;subst hv;exact h.one
 keep:=by rintro _ _ _ _ _ ⟨rfl,h⟩ hk;exact ⟨rfl,h.keep hk⟩
 lt:=by rintro _ _ _ _ ⟨rfl,h⟩;exact h.lt
section
variable {P:Program} {w w0 w':World} {α β γ:Type} [Rep α] [Rep β] {e lo hi:Nat} {v:Value} {l:List α} {F:List Nat}
instance:RepZ (RV α e):=⟨⟨.slice none 0 0,[]⟩,[.slice none 0 0],fun _=>⟨rfl,.inl ⟨none,rfl,rfl,rfl⟩⟩⟩
end
end Go.Sh
namespace Go.Sh
open Rep (rep)
structure Raw where
 v:Value
instance:Rep Raw where
 size:=1
 agg:=false
 rep F _ cs x:=F=[]∧cs=[x.v]∧x.v.oneCell'=true
 pos:=by decide
 sz _:=rfl
 len:=by rintro _ _ _ _ ⟨_,rfl,_⟩;rfl
 one:=by rintro _ _ _ _ ⟨_,rfl,h⟩ v hv;simp at hv;subst hv;exact h
 keep:=by rintro _ _ _ _ _ h _;exact h
 lt:=by rintro _ _ _ _ ⟨rfl,_⟩ b hb;cases hb
section
variable {P:Program} {w w0 w' w1:World} {α β γ:Type} [Rep α] [Rep β] {e lo hi:Nat} {v:Value} {F G S:List Nat} {b o g:Nat}
theorem ztK {ft by_:Nat} {u:Value} {K:Value→Prop} (hft:tyI P ft=some (1,by_,false)) (hr:w.rangeAt b o [u]) (k:K u):RD P (Instr.loadAt ft (.pointer (some ⟨b,o,none⟩))) w K:=by
 refine za0 (fun w' hx'=>?_) k
 have h0:w'.cell? ⟨b,o,none⟩=some u:=by simpa using (zbg hr hx') 0 u rfl
 have hA:=zbI hft w'
 simp [Instr.loadAt,Instr.sureAddr,loadVar,hA,h0]
theorem zrT {t by_:Nat} {u old:Value} {K:World→Prop} (ht:tyI P t=some (1,by_,false)) (hw:∃ c e,w.heap[b]?=some (.cells c e (0,0))) (hr:w.rangeAt b o [old]) (ho:old.oneCell'=true) (hu:u.oneCell'=true)
   (k:∀ w',ChgAt b o 1 [] w w'→w'.rangeAt b o [u]→K w'):OPU P (Instr.storeAt t (.pointer (some ⟨b,o,none⟩)) u) w K:=by
 refine znu (β:=Raw) (G:=[]) (y:=⟨old⟩) (y':=⟨u⟩) (G':=[]) ht ⟨[old],⟨rfl,rfl,ho⟩,hr,List.nodup_nil,Wr.nil w,by simp,hw⟩ ⟨[u],⟨rfl,rfl,hu⟩,rfl⟩ List.nodup_nil (Wr.nil w) (by simp) fun w' hc hO=>k w' hc ?_
 obtain ⟨cs,⟨_,rfl,_⟩,hr',_⟩:=hO
 exact hr'
theorem VarI.mono {lo' hi':Nat} {x:α} (h:VarI lo hi w g x) (h1:lo'≤lo) (h2:hi≤hi'):VarI lo' hi' w g x:=by
 obtain ⟨F,h,hF⟩:=h;exact ⟨F,h,fun b hb=>by have:=hF b hb;omega⟩
theorem zgi {t ty:TypeId} {by_:Nat} {u:Value} {x:β} {l:List β} {GX:List Nat} {K:World→Value→World→Prop} {C:Value→World→Prop} (ht:P.underlying t=some (.slice e)) (he:tyI P e=some (Rep.size β,by_,Rep.agg β)) (hz:zbm P e=true)
   (hzc:(P.info? e).map (fun i=>(i.zero.map (·.cells.size)))=some (some (Rep.size β))) (hsz:Rep.size β≤1000) (hv:RowG G e w v l) (hn:G.Nodup) (hx:Mine GX w u x) (hd:∀ c∈GX,c∉G) (hm:l.length+1≤maxLen) (hb:(l.length+1)*by_≤140737488355328)
   (k:∀ w1 v' w' G',Ext w w1→Chg G w1 w'→RowG G' e w' v' (l++[x])→G'.Nodup→(∀ c∈G',c∈G∨c∈GX∨w.heap.size≤c)→K w1 v' w')
   (hC:∀ s w1,Ext w w1→OP P (Builtin.append_ #[t,t] ty [v,s].toArray) w1 (K w1)→C s w1):OP P (Instr.buildSlice t 1 #[(0,u)]) w C:=by
 refine zgh ht he hz hsz hx fun w1 hx1 hm1=>?_
 obtain ⟨⟨cs,⟨a,cap,Fi,xs,rfl,h1,h2,hc,h4⟩,hveq⟩,hn1,hw1⟩:=hm1
 simp only [mkv,Rep.agg,cond_false,List.headD_cons,Value.slice.injEq,List.length_cons,List.length_nil] at hveq
 obtain ⟨rfl,_,rfl⟩:=hveq
 rcases h4 with ⟨h4,_⟩ | ⟨b,o,hab,hFe,hra,hbl⟩
 · simp at h4
 simp only [List.cons.injEq] at hFe
 obtain ⟨_,rfl⟩:=hFe
 refine hC _ w1 hx1 ?_
 have key:∀ (v:Value) (F:List Nat),RowF F e w v l→F.Nodup→(∀ c∈F,c∈G)→OP P (Builtin.append_ #[t,t] ty [v,.slice (some ⟨w.heap.size,0,none⟩) 1 1].toArray) w1 (K w1):=by
   intro v F hF hFn hFG
   have hF1:=hF.ext hx1
   have hdd:(GX++F).Nodup:=by
     rw [List.nodup_append]
     exact ⟨hx.nodup,hFn,fun p hp q hq e=>hd p hp (hFG _ (e▸hq))⟩
   refine zgg (m:=[x]) ht he hzc hF1 hFn rfl hc (.inr ⟨b,o,hab,hra⟩) (hw1.sub (by simp +contextual)) hdd (by simpa using hm) (by simpa using hb) fun v' w' F' hch hfull hr' hn' hs'=>?_
   have hown:∀ c∈v.ownBlock.toList,c∈G:=fun c hc=>by
     obtain ⟨xs,Fi,_,_,rfl,_⟩:=hF
     exact hFG c (by simp only [List.mem_append];exact .inl hc)
   refine k w1 v' w' F' hx1 (hch.mono hown) (.inr hr') hn' fun c hc=>?_
   rcases hs' c hc with h | h | h
   · exact .inl (hFG c h)
   · exact .inr (.inl h)
   exact .inr (.inr (Nat.le_trans hx1.size h))
 rcases hv with ⟨a0,rfl,rfl,rfl⟩ | hF
 · have kn:=key (.slice none 0 0) [] (zhV e w) List.nodup_nil (by simp)
   cases a0 with
   | none=>exact kn
   | some x0=>
     simp only [Option.some.injEq,Addr.mk.injEq] at hab
     obtain ⟨rfl,rfl,_⟩:=hab
     exact zj3 (zfQ (α:=β) (n:=1) ht he hzc (by simpa using Cells.len hc) hra (by omega) (by rw [zan];omega) (by simpa using hb)) kn
 exact key v G hF hn (fun _ h=>h)
theorem zb5 {t:TypeId} {by_:Nat} {u:Value} {x:β} {K:Value→World→Prop} (ht:P.underlying t=some (.slice e)) (he:tyI P e=some (Rep.size β,by_,Rep.agg β)) (hz:zbm P e=true) (hsz:Rep.size β≤1000) (hx:Mine [] w u x)
   (k:∀ v w',Ext w w'→RowI w.heap.size w'.heap.size e w' v [x]→K v w'):OP P (Instr.buildSlice t 1 #[(0,u)]) w K:=by
 obtain ⟨⟨cs,hr,rfl⟩,hn,hw⟩:=hx
 have hcl:=ze0 hr
 have hlen:=Rep.len hr
 have hvs:(mkv β cs).cells.size=Rep.size β:=by rw [←Array.length_toList,hcl,hlen]
 obtain ⟨i,d,hi,hd,hs,hby,hg⟩:=zcE he
 unfold zbm at hz
 rw [hi] at hz
 obtain ⟨z,hz⟩:=Option.isSome_iff_exists.1 hz
 have hpos:=Rep.pos (α:=β)
 refine ⟨_,w.alloc (.cells (mkv β cs).cells e),?_,k (.slice (some ⟨w.heap.size,0,none⟩) 1 1) _ (zaP w _) (.inr ⟨[w.heap.size],⟨cs,[],⟨by simp [hlen],.inr ⟨w.heap.size,1,(mkv β cs).cells,rfl,Nat.zero_le _,heap_alloc_new w _,Nat.le_refl _,by rw [zan];omega,by rw [hvs,Nat.one_mul],?_⟩⟩,Cells.single (zbZ hr (zaP w _)),rfl,Wr.nil _⟩,by simp,?_⟩)⟩
 · have hne:¬Rep.size β=0:=by omega
   have h24:¬2^24<Rep.size β:=by omega
   simp only [Instr.buildSlice,Sem.run_bind,run_underlying ht,Result.andThen_ok,zaW he,Nat.one_mul]
   simp [h24,hne,zeroValue,typeInfo,hi,hz,znw _ _ _ hvs,newRow]
 · rw [hcl,List.length_singleton,Nat.one_mul,List.take_of_length_le (by omega)]
 intro b hb
 simp only [List.mem_cons,List.not_mem_nil,or_false] at hb
 subst hb
 exact ⟨Nat.le_refl _,(Array.getElem?_eq_some_iff.1 (heap_alloc_new w _)).1⟩
end
end Go.Sh
namespace Go.Sh
open Rep (rep)
instance:Rep UInt8 where
 size:=1
 agg:=false
 rep F _ cs x:=F=[]∧cs=[.int .u8 (x.toNat:Int)]
 pos:=by decide
 sz _:=rfl
 len:=by rintro _ _ _ _ ⟨_,rfl⟩;rfl
 one:=by rintro _ _ _ _ ⟨_,rfl⟩ v hv;simp at hv;subst hv;rfl
 keep:=by rintro _ _ _ _ _ h _;exact h
 lt:=by rintro _ _ _ _ ⟨rfl,_⟩ b hb;cases hb
instance:Flat UInt8:=⟨fun h=>h.1⟩
instance:RepZ UInt8:=⟨0,[.int .u8 0],fun _=>⟨rfl,rfl⟩⟩
section
variable {P:Program} {w w0:World} {K:Value→Prop} {t:TypeId} {x y:Operand}
theorem ztL {b:UInt8}:Mine [] w (.int .u8 (b.toNat:Int)) b:=⟨⟨_,⟨rfl,rfl⟩,rfl⟩,List.nodup_nil,Wr.nil w⟩
theorem ztM {lo hi:Nat} {b:UInt8}:OwnI lo hi w (.int .u8 (b.toNat:Int)) b:=⟨[],ztL,by simp⟩
theorem ztN {src dst:TypeId} {n:Nat} (hs:(P.underlying src).isSome=true) (hd:P.underlying dst=some (.int .u8)) (hn:n<256) (k:K (.int .u8 ((UInt8.ofNat n).toNat:Int))):RD P (convert src dst (.int .i64 (n:Int))) w K:=by
 refine za0 (fun w' _=>?_) k
 obtain ⟨d,hd'⟩:=Option.isSome_iff_exists.mp hs
 have h1:IntKind.u8.wrap (n:Int)=n:=by simp [IntKind.wrap,IntKind.signed,IntKind.bits];omega
 have h2:(UInt8.ofNat n).toNat=n:=by simp;omega
 simp [convert,run_underlying hd',run_underlying hd,Conv.intToInt,h1]
 omega
theorem zhZ {src dst e:TypeId} {v:Value} {l:List UInt8} (hs:P.underlying src=some (.slice e)) (he:P.underlying e=some (.int .u8)) (hd:P.underlying dst=some .string) (h:Is w0 v l) (hx:Ext w0 w)
   (k:K (.string ⟨l.toArray⟩)):RD P (convert src dst v) w K:=by
 obtain ⟨a,cap,Fi,xs,rfl,h1,h2,hc,h4⟩:=zdb h
 have hcells:∀ {l:List UInt8} {F:List Nat} {xs:List Value},Cells F w0 xs l→xs=l.map fun b=>Value.int .u8 (b.toNat:Int):=by
   intro l
   induction l with
   | nil=>rintro _ _ ⟨_,rfl⟩;rfl
   | cons b l ih=>
     rintro _ _ ⟨F1,F2,c1,c2,_,rfl,⟨_,rfl⟩,h⟩
     rw [ih h];rfl
 have hxs:=hcells hc
 refine za0 (fun w' hx'=>?_) k
 rcases h4 with rfl | ⟨b,o,rfl,hr,hb⟩
 · cases a with
   | none=>exact run_convert_bytes_nil w' src e hs he _ _ dst hd
   | some a=>
     rw [run_convert_bytes_string w' src dst e _ _ cap hs he hd]
     have:=run_bytesToString (P:=P) w' a 0 cap [] (by simp [loadCells,loadCellsFrom])
     exact this
 have:=run_convert_bytes_arg w' src e hs he b o l.length cap (l.map fun b=>(b.toNat:Int)) (by simp) (fun i hi=>by
   have hr':=zbg (zbg hr hx) hx'
   have:=hr' i (.int .u8 (l[i].toNat:Int)) (by rw [hxs];simp [hi])
   rw [this]
   simp [List.getD,hi]) dst hd
 rw [this]
 have e:strOfNums (l.map fun b=>(b.toNat:Int))=⟨l.toArray⟩:=by
   unfold strOfNums
   congr 2
   rw [List.map_map]
   conv=>rhs;rw [←List.map_id l]
   congr 1
   funext b
   simp
 rw [e]
theorem zbS {a b:ByteArray} (h:a.size+b.size≤9223372036854775807) (k:K (.string (a++b))):RD P (bin .add t x y (.string a) (.string b)) w K:=
 za0 (fun w' _=>by
   have hh:¬(((a.size+b.size:Nat):Int)>IntKind.i64.max):=by
     have:IntKind.i64.max=9223372036854775807:=by decide
     omega
   show (do eqGuard .add t x y (.string a) (.string b);binOp .add t (.string a) (.string b):Sem Value).run P w'=_
   simp only [eqGuard,binOp,Op.stringOp,hh,if_false]
   rfl) k
theorem zuQ {a b:Int} (hb:b≠0) (h:I64 (a.tdiv b)) (k:K (.int .i64 (a.tdiv b))):RD P (bin .quo t x y (.int .i64 a) (.int .i64 b)) w K:=
 za0 (fun w' _=>by simp [bin,eqGuard,binOp,Op.intDiv,hb,IntWalk.i64_in _ h]) k
end
end Go.Sh
namespace Go.Proofs.YtbnjpfjjmhodnaaGreatDoor
open Go Go.Sh Go.Proofs
open Rep (rep)
theorem u2:Tryz.prog.underlying 2=some (TypeDesc.int IntKind.i64):=by kernel_rfl
theorem z2:zbm Tryz.prog 2=true:=by kernel_rfl
theorem ty3:tyI Tryz.prog 3=some (1,8,false):=by kernel_rfl
theorem u3:Tryz.prog.underlying 3=some (TypeDesc.int IntKind.i64):=by kernel_rfl
theorem z3:zbm Tryz.prog 3=true:=by kernel_rfl
theorem zc3:(Tryz.prog.info? 3).map (fun i=>(i.zero.map (·.cells.size)))=some (some 1):=by kernel_rfl
theorem ty4:tyI Tryz.prog 4=some (1,1,false):=by kernel_rfl
theorem u4:Tryz.prog.underlying 4=some TypeDesc.bool:=by kernel_rfl
theorem z4:zbm Tryz.prog 4=true:=by kernel_rfl
theorem zc4:(Tryz.prog.info? 4).map (fun i=>(i.zero.map (·.cells.size)))=some (some 1):=by kernel_rfl
theorem ty5:tyI Tryz.prog 5=some (1,1,false):=by kernel_rfl
theorem u5:Tryz.prog.underlying 5=some (TypeDesc.int IntKind.u8):=by kernel_rfl
theorem z5:zbm Tryz.prog 5=true:=by kernel_rfl
theorem u6:Tryz.prog.underlying 6=some (TypeDesc.int IntKind.u8):=by kernel_rfl
theorem ty9:tyI Tryz.prog 9=some (1,16,false):=by kernel_rfl
theorem u9:Tryz.prog.underlying 9=some TypeDesc.string:=by kernel_rfl
theorem z9:zbm Tryz.prog 9=true:=by kernel_rfl
theorem zc9:(Tryz.prog.info? 9).map (fun i=>(i.zero.map (·.cells.size)))=some (some 1):=by kernel_rfl
theorem u10:Tryz.prog.underlying 10=some TypeDesc.string:=by kernel_rfl
theorem u11:Tryz.prog.underlying 11=some TypeDesc.string:=by kernel_rfl
theorem u12:Tryz.prog.underlying 12=some (TypeDesc.int IntKind.u64):=by kernel_rfl
theorem u21:Tryz.prog.underlying 21=some (TypeDesc.int IntKind.i32):=by kernel_rfl
theorem zbP:tyI Tryz.prog 22=some (1,24,false):=by kernel_rfl
theorem u22:Tryz.prog.underlying 22=some (TypeDesc.slice 9):=by kernel_rfl
theorem z22:zbm Tryz.prog 22=true:=by kernel_rfl
theorem zbE:tyI Tryz.prog 23=some (1,24,false):=by kernel_rfl
theorem u23:Tryz.prog.underlying 23=some (TypeDesc.slice 3):=by kernel_rfl
theorem z23:zbm Tryz.prog 23=true:=by kernel_rfl
theorem zvs:(Tryz.prog.info? 23).map (fun i=>(i.zero.map (·.cells.size)))=some (some 1):=by kernel_rfl
theorem zvO:tyI Tryz.prog 24=some (1,24,false):=by kernel_rfl
theorem u24:Tryz.prog.underlying 24=some (TypeDesc.slice 74):=by kernel_rfl
theorem z24:zbm Tryz.prog 24=true:=by kernel_rfl
theorem z25:zbm Tryz.prog 25=true:=by kernel_rfl
theorem zvz:tyI Tryz.prog 26=some (5,120,true):=by kernel_rfl
theorem zvP:Tryz.prog.underlying 26=some (TypeDesc.struct (Array.mk [Field.mk "Globals" 22 0 false "" "" 0,Field.mk "Locks" 22 1 false "" "" 24,Field.mk "Procs" 22 2 false "" "" 48,Field.mk "Entry" 23 3 false "" "" 72,Field.mk "Ins" 24 4 false "" "" 96])):=by kernel_rfl
theorem zs0:zc2 Tryz.prog 26 0=some 0:=by kernel_rfl
theorem zs1:zc2 Tryz.prog 26 1=some 1:=by kernel_rfl
theorem zs2:zc2 Tryz.prog 26 2=some 2:=by kernel_rfl
theorem zs3:zc2 Tryz.prog 26 3=some 3:=by kernel_rfl
theorem zs4:zc2 Tryz.prog 26 4=some 4:=by kernel_rfl
theorem zct:tyI Tryz.prog 29=some (1,24,false):=by kernel_rfl
theorem u29:Tryz.prog.underlying 29=some (TypeDesc.slice 94):=by kernel_rfl
theorem zbt:tyI Tryz.prog 31=some (5,120,true):=by kernel_rfl
theorem zvA:zcm Tryz.prog 31=some [.slice none 0 0,.slice none 0 0,.slice none 0 0,.slice none 0 0,.slice none 0 0]:=by kernel_rfl
theorem zcH:zc2 Tryz.prog 31 0=some 0:=by kernel_rfl
theorem zcn:zc2 Tryz.prog 31 1=some 1:=by kernel_rfl
theorem zba:zc2 Tryz.prog 31 2=some 2:=by kernel_rfl
theorem za1:zc2 Tryz.prog 31 3=some 3:=by kernel_rfl
theorem zaJ:zc2 Tryz.prog 31 4=some 4:=by kernel_rfl
theorem zvQ:tyI Tryz.prog 39=some (1,24,false):=by kernel_rfl
theorem u39:Tryz.prog.underlying 39=some (TypeDesc.slice 5):=by kernel_rfl
theorem z39:zbm Tryz.prog 39=true:=by kernel_rfl
theorem u40:Tryz.prog.underlying 40=some (TypeDesc.slice 44):=by kernel_rfl
theorem zd5:tyI Tryz.prog 44=some (3,24,true):=by kernel_rfl
theorem z44:zbm Tryz.prog 44=true:=by kernel_rfl
theorem zuR:(Tryz.prog.info? 44).map (fun i=>(i.zero.map (·.cells.size)))=some (some 3):=by kernel_rfl
theorem zvB:zcm Tryz.prog 44=some [.int .i64 0,.int .i64 0,.int .i64 0]:=by kernel_rfl
theorem zgj:zc2 Tryz.prog 44 0=some 0:=by kernel_rfl
theorem zhi:zc2 Tryz.prog 44 1=some 1:=by kernel_rfl
theorem zjm:zc2 Tryz.prog 44 2=some 2:=by kernel_rfl
theorem u45:Tryz.prog.underlying 45=some (TypeDesc.slice 23):=by kernel_rfl
theorem z45:zbm Tryz.prog 45=true:=by kernel_rfl
theorem z55:zbm Tryz.prog 55=true:=by kernel_rfl
theorem zvR:tyI Tryz.prog 70=some (1,24,false):=by kernel_rfl
theorem u70:Tryz.prog.underlying 70=some (TypeDesc.slice 72):=by kernel_rfl
theorem z70:zbm Tryz.prog 70=true:=by kernel_rfl
theorem zs5:tyI Tryz.prog 72=some (4,56,true):=by kernel_rfl
theorem z72:zbm Tryz.prog 72=true:=by kernel_rfl
theorem zv0:Tryz.prog.underlying 72=some (TypeDesc.struct (Array.mk [Field.mk "Kind" 3 0 false "" "" 0,Field.mk "Num" 3 1 false "" "" 8,Field.mk "Name" 9 2 false "" "" 16,Field.mk "Kids" 70 3 false "" "" 32])):=by kernel_rfl
theorem zuS:zc2 Tryz.prog 72 0=some 0:=by kernel_rfl
theorem zuT:zc2 Tryz.prog 72 1=some 1:=by kernel_rfl
theorem zs6:zc2 Tryz.prog 72 2=some 2:=by kernel_rfl
theorem zs7:zc2 Tryz.prog 72 3=some 3:=by kernel_rfl
theorem zux:tyI Tryz.prog 74=some (7,80,true):=by kernel_rfl
theorem zv1:Tryz.prog.underlying 74=some (TypeDesc.struct (Array.mk [Field.mk "Op" 3 0 false "" "" 0,Field.mk "Arg" 3 1 false "" "" 8,Field.mk "Term" 72 2 false "" "" 16,Field.mk "To" 3 6 false "" "" 72])):=by kernel_rfl
theorem zuU:zc2 Tryz.prog 74 0=some 0:=by kernel_rfl
theorem zuV:zc2 Tryz.prog 74 1=some 1:=by kernel_rfl
theorem zs8:zc2 Tryz.prog 74 2=some 2:=by kernel_rfl
theorem zuW:zc2 Tryz.prog 74 3=some 6:=by kernel_rfl
theorem u76:Tryz.prog.underlying 76=some (TypeDesc.slice 81):=by kernel_rfl
theorem z76:zbm Tryz.prog 76=true:=by kernel_rfl
theorem u78:Tryz.prog.underlying 78=some (TypeDesc.slice 82):=by kernel_rfl
theorem zgQ:tyI Tryz.prog 81=some (4,32,true):=by kernel_rfl
theorem z81:zbm Tryz.prog 81=true:=by kernel_rfl
theorem zuy:(Tryz.prog.info? 81).map (fun i=>(i.zero.map (·.cells.size)))=some (some 4):=by kernel_rfl
theorem zvt:zcm Tryz.prog 81=some [.int .i64 0,.int .i64 0,.bool false,.int .i64 0]:=by kernel_rfl
theorem zfG:zc2 Tryz.prog 81 0=some 0:=by kernel_rfl
theorem zjn:zc2 Tryz.prog 81 1=some 1:=by kernel_rfl
theorem znx:zc2 Tryz.prog 81 2=some 2:=by kernel_rfl
theorem zjo:zc2 Tryz.prog 81 3=some 3:=by kernel_rfl
theorem zep:tyI Tryz.prog 82=some (1,24,false):=by kernel_rfl
theorem u82:Tryz.prog.underlying 82=some (TypeDesc.slice 4):=by kernel_rfl
theorem z82:zbm Tryz.prog 82=true:=by kernel_rfl
theorem zvC:(Tryz.prog.info? 82).map (fun i=>(i.zero.map (·.cells.size)))=some (some 1):=by kernel_rfl
theorem u86:Tryz.prog.underlying 86=some (TypeDesc.slice 133):=by kernel_rfl
theorem zhr:tyI Tryz.prog 90=some (1,24,false):=by kernel_rfl
theorem u90:Tryz.prog.underlying 90=some (TypeDesc.slice 92):=by kernel_rfl
theorem zdu:tyI Tryz.prog 92=some (4,56,true):=by kernel_rfl
theorem z92:zbm Tryz.prog 92=true:=by kernel_rfl
theorem zv2:Tryz.prog.underlying 92=some (TypeDesc.struct (Array.mk [Field.mk "Kind" 3 0 false "" "" 0,Field.mk "Num" 3 1 false "" "" 8,Field.mk "Name" 9 2 false "" "" 16,Field.mk "Kids" 90 3 false "" "" 32])):=by kernel_rfl
theorem zuX:zcm Tryz.prog 92=some [.int .i64 0,.int .i64 0,.string ByteArray.empty,.slice none 0 0]:=by kernel_rfl
theorem zeO:zc2 Tryz.prog 92 0=some 0:=by kernel_rfl
theorem zd8:zc2 Tryz.prog 92 1=some 1:=by kernel_rfl
theorem zdA:zc2 Tryz.prog 92 2=some 2:=by kernel_rfl
theorem zb3:zc2 Tryz.prog 92 3=some 3:=by kernel_rfl
theorem zcb:tyI Tryz.prog 94=some (7,80,true):=by kernel_rfl
theorem z94:zbm Tryz.prog 94=true:=by kernel_rfl
theorem zmj:zcm Tryz.prog 94=some [.int .i64 0,.int .i64 0,.int .i64 0,.int .i64 0,.string ByteArray.empty,.slice none 0 0,.int .i64 0]:=by kernel_rfl
theorem za6:zc2 Tryz.prog 94 0=some 0:=by kernel_rfl
theorem za7:zc2 Tryz.prog 94 1=some 1:=by kernel_rfl
theorem zdB:zc2 Tryz.prog 94 2=some 2:=by kernel_rfl
theorem zdg:zc2 Tryz.prog 94 3=some 6:=by kernel_rfl
theorem zbd:zc2 Tryz.prog 97 0=some 0:=by kernel_rfl
theorem zny:zc2 Tryz.prog 97 1=some 5:=by kernel_rfl
theorem znz:zc2 Tryz.prog 97 2=some 6:=by kernel_rfl
theorem zpI:zc2 Tryz.prog 97 3=some 7:=by kernel_rfl
theorem zk2:zc2 Tryz.prog 97 4=some 8:=by kernel_rfl
theorem zh0:zc2 Tryz.prog 97 5=some 9:=by kernel_rfl
theorem zh1:zc2 Tryz.prog 97 6=some 10:=by kernel_rfl
theorem zs9:Tryz.prog.underlying 106=some (TypeDesc.slice 131):=by kernel_rfl
theorem zfR:zc2 Tryz.prog 121 1=some 5:=by kernel_rfl
theorem zex:zc2 Tryz.prog 121 2=some 6:=by kernel_rfl
theorem zj5:zc2 Tryz.prog 121 3=some 7:=by kernel_rfl
theorem zk3:tyI Tryz.prog 131=some (3,24,true):=by kernel_rfl
theorem zvS:zbm Tryz.prog 131=true:=by kernel_rfl
theorem zuY:(Tryz.prog.info? 131).map (fun i=>(i.zero.map (·.cells.size)))=some (some 3):=by kernel_rfl
theorem zvD:zcm Tryz.prog 131=some [.int .i64 0,.int .i64 0,.int .i64 0]:=by kernel_rfl
theorem zj6:zc2 Tryz.prog 131 0=some 0:=by kernel_rfl
theorem zj7:zc2 Tryz.prog 131 1=some 1:=by kernel_rfl
theorem zpJ:zc2 Tryz.prog 131 2=some 2:=by kernel_rfl
theorem zdc:tyI Tryz.prog 133=some (2,16,true):=by kernel_rfl
theorem zvT:zbm Tryz.prog 133=true:=by kernel_rfl
theorem zuZ:(Tryz.prog.info? 133).map (fun i=>(i.zero.map (·.cells.size)))=some (some 2):=by kernel_rfl
theorem zrU:zcm Tryz.prog 133=some [.int .i64 0,.int .i64 0]:=by kernel_rfl
theorem zh2:zc2 Tryz.prog 133 0=some 0:=by kernel_rfl
theorem zh3:zc2 Tryz.prog 133 1=some 1:=by kernel_rfl
theorem zh4:Tryz.prog.underlying 139=some (TypeDesc.int IntKind.u64):=by kernel_rfl
theorem zuz:Tryz.prog.underlying 152=some (TypeDesc.slice 154):=by kernel_rfl
theorem zmw:tyI Tryz.prog 154=some (1,8,false):=by kernel_rfl
theorem zpK:Tryz.prog.underlying 162=some (TypeDesc.slice 197):=by kernel_rfl
theorem zi8:tyI Tryz.prog 197=some (2,16,true):=by kernel_rfl
theorem zvU:zbm Tryz.prog 197=true:=by kernel_rfl
theorem zu0:(Tryz.prog.info? 197).map (fun i=>(i.zero.map (·.cells.size)))=some (some 2):=by kernel_rfl
theorem zpL:zc2 Tryz.prog 197 0=some 0:=by kernel_rfl
theorem zh5:zc2 Tryz.prog 197 1=some 1:=by kernel_rfl
abbrev VW:=Value→World→Prop
noncomputable abbrev tp:Program:=Tryz.prog
abbrev T0:Operand:=.tmp 0
abbrev U0:Operand:=.const undef
abbrev ln (t y:Nat) (x:Value):Sem Value:=Builtin.len_ #[t] y [x].toArray
theorem zwb {u:Nat→Value} {a:Nat} {x:Value} (h:[a].map u=[x]):u a=x:=by simpa using h
theorem zb1 {u:Nat→Value} {a b:Nat} {x y:Value} (h:[a,b].map u=[x,y]):u a=x∧u b=y:=by simpa using h
theorem zvE {u:Nat→Value} {a b c:Nat} {x y z:Value} (h:[a,b,c].map u=[x,y,z]):u a=x∧u b=y∧u c=z:=by simpa using h
abbrev iV (x:Int):Value:=.int .i64 x
abbrev cL (f:Nat) (a:List Value) (w:World) (R:Value→World→Prop):Prop:=CALL tp f a w R
abbrev rD (m:Sem Value) (w:World) (K:Value→Prop):Prop:=RD tp m w K
abbrev oP (m:Sem Value) (w:World) (K:Value→World→Prop):Prop:=OP tp m w K
abbrev rL (t:Nat) (x:Value) (w:World) (K:Value→Prop):Prop:=RD tp (Instr.loadAt t x) w K
abbrev rF (t:Nat) (x:Value) (i:Nat) (w:World) (K:Value→Prop):Prop:=RD tp (Instr.fieldAt t x i) w K
abbrev rX (t:Nat) (x i:Value) (w:World) (K:Value→Prop):Prop:=RD tp (Instr.indexAt t x i) w K
abbrev rN (t y:Nat) (x:Value) (w:World) (K:Value→Prop):Prop:=RD tp (ln t y x) w K
abbrev rC (a b:Value) (w:World) (K:Value→Prop):Prop:=RD tp (bin .lss 3 T0 T0 a b) w K
abbrev rA (a b:Value) (w:World) (K:Value→Prop):Prop:=RD tp (bin .add 3 T0 U0 a b) w K
abbrev rB (o:BinOp) (t:Nat) (x y:Operand) (a b:Value) (w:World) (K:Value→Prop):Prop:=RD tp (bin o t x y a b) w K
abbrev oS (t:Nat) (x v:Value) (w:World) (K:World→Prop):Prop:=OPU tp (Instr.storeAt t x v) w K
abbrev oU (m:Sem Unit) (w:World) (K:World→Prop):Prop:=OPU tp m w K
abbrev rE (x:Value) (i:Nat) (w:World) (K:Value→Prop):Prop:=RD tp (Instr.extract x i) w K
theorem co {g:Cfg} {f:FuncId} {fn:Func} {args:List Value} {w:World} {R:VW} {F:Prop} (hf:tp.funcs[f]?=some fn) (hl:args.length.ble fn.ntmps=true) (hok:okF g 256 fn=true) (e:vcF tp g fn args w R=F) (h:F) (hg:g.ext=extL:=by rfl):CALL tp f args w R:=
 ztF (hg▸ent) mixed hf (Nat.le_of_ble_eq_true hl) hok (e▸h)
def F22 (a0 a1:Value) (w:World) (R:VW):Prop:=
 cL 54 [a0] w fun x7 w=>
 NIL a0 <|
 rF 56 a0 1 w fun x11=>
 rL 39 x11 w fun x12=>
 oP (Builtin.append_ #[39,9] 39 [x12,a1].toArray) w fun x14 w=>
 NIL a0 <|
 rF 56 a0 1 w fun x16=>
 oS 39 x16 x14 w fun w=>
 rN 9 3 a1 w fun x18=>
 R (Value.tuple #[x18,Value.nilIface]) w
def cfg22:Cfg:=⟨extL,[],[],[],[],[],[]⟩
theorem F22_call {a0 a1:Value} {w:World} {R:VW} (h:F22 a0 a1 w R):cL 22 [a0,a1] w R:=co (g:=cfg22) Tryz.func22 (by kernel_rfl) (by kernel_rfl) (by kernel_rfl) h
open Go.RowKit (Below)
theorem zta:Builder.X72 Tryz.prog Tryz.laysN166_ren:=⟨by kernel_rfl,by kernel_rfl⟩
theorem zvF:Builder.Extra Tryz.prog Tryz.laysN169_ren where
 sizeBuilder:=by kernel_rfl
 liesBuilder:=by kernel_rfl
 t5:=Tryz.underlying5
 a5:=Tryz.isAgg5
 z5:=Tryz.sizeOf5
 v5:=Tryz.zeroValue5
 infoByte:=by kernel_rfl
 cellsByte:=by kernel_rfl
 sizeByte:=by kernel_rfl
 neB5:=by decide
theorem byI:∃ i,Tryz.prog.info? 5=some i∧i.zero=some (.int .u8 0)∧i.size=1∧i.bytes=1:=by
 have h:(Tryz.prog.info? 5).map (fun i=>(i.zero,i.size,i.bytes))=some (some (.int .u8 0),1,1):=by kernel_rfl
 obtain ⟨i,hi,he⟩:=Option.map_eq_some_iff.1 h
 simp only [Prod.mk.injEq] at he
 exact ⟨i,hi,he.1,he.2.1,he.2.2⟩
def BldAt (w:World) (g:Nat) (l:List UInt8) (X:Nat→Prop):Prop:=
 ∃ p v,Blk g 56 w [p,v]∧(p=.pointer none∨p=.pointer (some ⟨g,0,none⟩))∧w.ownsRow (g+1) 5 1 v l.length (Lib.byteCells l)∧∀ k,v.ownBlock=some k→X k
section
variable {w w':World} {g:Nat} {l:List UInt8} {X Y:Nat→Prop}
theorem BldAt.mono (h:BldAt w g l X) (hx:∀ k,X k→k<w.heap.size→Y k):BldAt w g l Y:=by
 obtain ⟨p,v,h1,h2,h3,h4⟩:=h
 exact ⟨p,v,h1,h2,h3,fun k hk=>hx k (h4 k hk) (h3.lt k hk).2⟩
theorem BldAt.lt (h:BldAt w g l X):g<w.heap.size:=by
 obtain ⟨p,v,h1,_⟩:=h;exact h1.lt
theorem zpM {v:Value} {b n:Nat} {xs:List Value} (h:w.ownsRow b 5 1 v n xs) (hx:Ext w w'):w'.ownsRow b 5 1 v n xs:=
 h.kept (row:=none) ⟨hx.os,hx.tape,hx.output,hx.size,fun k hk _=>hx.block k hk⟩ (by cases v.ownBlock<;>simp)
theorem znA {v:Value} {b b' n:Nat} {xs:List Value} (h:w.ownsRow b 5 1 v n xs) (hb:b'≤b):w.ownsRow b' 5 1 v n xs:=by
 refine ⟨h.1,?_⟩
 rcases h.2 with h | ⟨g,cap,cur,h1,h2,h3⟩
 · exact .inl h
 exact .inr ⟨g,cap,cur,h1,Nat.le_trans hb h2,h3⟩
theorem BldAt.ext (h:BldAt w g l X) (hx:Ext w w'):BldAt w' g l X:=by
 obtain ⟨p,v,h1,h2,h3,h4⟩:=h
 exact ⟨p,v,h1.ext hx,h2,zpM h3 hx,h4⟩
theorem znB {v:Value} {n:Nat} {xs:List Value} (h:w.ownsRow (g+1) 5 1 v n xs):v.ownBlock≠some g:=fun e=>by
 have:=(h.lt g e).1;omega
theorem zh6 (l:List UInt8) (s:ByteArray):Lib.byteCells (l++bts s)=Lib.byteCells l++Lib.strCells s:=by
 unfold Lib.byteCells Lib.strCells bts
 rw [List.map_append]
theorem ztO {K:Value→World→Prop} (k:∀ w',Ext w w'→BldAt w' w.heap.size [] X→K (.pointer (some ⟨w.heap.size,0,none⟩)) w') :
   OP Tryz.prog (Instr.alloc 56 true (.tuple #[])) w K:=by
 refine zj2 (zs:=[.pointer none,.slice none 0 0]) (by kernel_rfl) fun w' hx hB=>k w' hx ⟨_,_,hB,.inl rfl,World.ownsRow_nil _ _ _ _,?_⟩
 intro k hk;simp [Value.ownBlock] at hk
theorem zh7 (h:BldAt w g l X):∃ p v,Blk g 56 w [p,v]∧(p=.pointer none∨p=.pointer (some ⟨g,0,none⟩))∧w.ownsRow (g+1) 5 1 v l.length (Lib.byteCells l)∧(∀ k,v.ownBlock=some k→X k)∧Lib.BuilderAt 56 5 g g p (Lib.byteCells l) w:=by
 obtain ⟨p,v,h1,h2,h3,h4⟩:=h
 have hl:(Lib.byteCells l).length=l.length:=by simp [Lib.byteCells]
 exact ⟨p,v,h1,h2,h3,h4,Nat.le_refl _,v,h1,by rw [hl];exact znA h3 (Nat.le_succ g),znB h3⟩
theorem zk4 (h:BldAt w g l X) :
   CALL Tryz.prog 54 [.pointer (some ⟨g,0,none⟩)] w fun r w'=>Chg [g] w w'∧w'.heap.size=w.heap.size ∧
     ∃ v,Blk g 56 w' [.pointer (some ⟨g,0,none⟩),v]∧w'.ownsRow (g+1) 5 1 v l.length (Lib.byteCells l)∧∀ k,v.ownBlock=some k→X k:=by
 obtain ⟨p,v,h1,h2,h3,h4,hB⟩:=zh7 h
 rcases h2 with rfl | rfl
 · refine ⟨(Any.Builder_copyCheck_fresh { Tryz.laysN166 with } zta g w hB.cell0 hB.shape hB.frozen0).mono ?_⟩
   rintro e w' ⟨he,rfl⟩
   refine ⟨_,he,⟨rfl,rfl,rfl,by simp [World.setCell],fun k _ hk=>Below.heap_setCell _ _ _ _ (by simpa using hk)⟩,by simp [World.setCell],v,?_,?_,h4⟩
   · have h1':w.heap[g]?=some (.cells #[.pointer none,v] 56 (0,0)):=h1
     unfold Blk
     simp [World.setCell,Array.getElem?_modify,h1']
   exact h3.kept (row:=some g) ⟨rfl,rfl,rfl,by simp [World.setCell],fun k _ hk=>Below.heap_setCell _ _ _ _ (fun e=>hk (by simp [e]))⟩ (.inr (znB h3))
 refine ⟨(Any.Builder_copyCheck_used { Tryz.laysN166 with } zta g w hB.cell0).mono ?_⟩
 rintro e w' ⟨he,rfl⟩
 exact ⟨_,he,Chg.refl _ _,rfl,v,h1,h3,h4⟩
theorem zjp {v:Value} {b n:Nat} {xs:List Value} {s:ByteArray} {K:Value→World→Prop} (h:w.ownsRow b 5 1 v n xs) (hn:n+s.size≤140737488355328) (hb:b≤w.heap.size)
   (k:∀ v' w',w'.ownsRow b 5 1 v' (n+s.size) (xs++Lib.strCells s)→w.grownBy w' v.ownBlock→(∀ j,v'.ownBlock=some j→v.ownBlock=some j∨w.heap.size≤j)→K v' w'):OP Tryz.prog (Builtin.append_ #[39,9] 39 [v,.string s].toArray) w K:=by
 obtain ⟨i,hi,hz,hs,hy⟩:=byI
 have hm:n+s.size≤maxLen:=by rw [zan];omega
 obtain ⟨v',w',hr,h1,h2,h3⟩:=Lib.run_append_own_string (P:=Tryz.prog) w b 39 9 39 5 i Tryz.underlying39 Tryz.underlying9 hi hz hs hy v n xs h s hm hn hb
 have hxl:xs.length=n:=by simpa using h.1
 refine ⟨v',w',hr,k v' w' h1 h2 fun j hk=>?_⟩
 clear k
 rcases h.2 with ⟨rfl,rfl⟩ | ⟨g,cap,cur,rfl,hbg,hg,hnc,hcm,hcs,htake⟩
 · have hx:xs=[]:=List.eq_nil_of_length_eq_zero hxl
   subst hx
   obtain ⟨v2,w2,hr2,h12,_⟩:=Lib.run_append_own_string (P:=Tryz.prog) w w.heap.size 39 9 39 5 i Tryz.underlying39 Tryz.underlying9 hi hz hs hy _ 0 [] (World.ownsRow_nil w w.heap.size 5 1) s hm hn (Nat.le_refl _)
   rw [hr] at hr2
   simp only [Result.ok.injEq] at hr2
   obtain ⟨rfl,rfl⟩:=hr2
   exact .inr (h12.lt _ hk).1
 by_cases hroom:n+s.size≤cap
 · have hr2:=Lib.run_append_room_string (P:=Tryz.prog) w 39 9 39 5 i Tryz.underlying39 Tryz.underlying9 hi hs g n cap cur hg s hroom (by omega)
   rw [show (#[.slice (some ⟨g,0,none⟩) n cap,.string s]:Array Value)=[.slice (some ⟨g,0,none⟩) n cap,.string s].toArray from rfl,hr] at hr2
   simp only [Result.ok.injEq] at hr2
   obtain ⟨rfl,rfl⟩:=hr2
   exact .inl hk
 have hr2:=Lib.run_append_grow_string (P:=Tryz.prog) w 39 9 39 5 i (.int .u8 0) Tryz.underlying39 Tryz.underlying9 hi hz ⟨g,0,none⟩ n cap xs (by rw [hs];simpa using hxl) (h.cells (g:=g) rfl) s (by omega) (by omega) (by rw [hy];exact growslice_fits (by omega) (by omega))
 rw [show (#[.slice (some ⟨g,0,none⟩) n cap,.string s]:Array Value)=[.slice (some ⟨g,0,none⟩) n cap,.string s].toArray from rfl,hr] at hr2
 simp only [Result.ok.injEq] at hr2
 obtain ⟨rfl,rfl⟩:=hr2
 simp only [Value.ownBlock,Option.some.injEq] at hk
 exact .inr (by omega)
theorem zvV {F:List Nat} (h:Chg F w w') (hF:∀ k∈F,X k):ExtX X w w':=⟨h.os,h.tape,h.output,h.size,fun b hb hx=>h.block b hb fun hm=>hx (hF b hm)⟩
theorem zrA {w2:World} (h:ExtX X w w') (k:ExtX X w' w2):ExtX X w w2:=
 ⟨k.os.trans h.os,k.tape.trans h.tape,k.output.trans h.output,Nat.le_trans h.size k.size,fun b hb hx=>(k.block b (Nat.lt_of_lt_of_le hb h.size) hx).trans (h.block b hb hx)⟩
theorem zh8 {b o:Nat} {v:Value} (h:w.cell? ⟨b,o,none⟩=some v):w.rangeAt b o [v]:=by
 intro j u hu
 cases j with
 | zero=>simp at hu;subst hu;exact h
 | succ j=>simp at hu
theorem zfH {s:ByteArray} (h:BldAt w g l X) (hX:∀ k,w.heap.size≤k→X k) (hs:l.length+s.size≤140737488355328) (hm:s.size≤maxLen) :
   CALL Tryz.prog 22 [.pointer (some ⟨g,0,none⟩),.string s] w fun r w'=>ExtX (fun b=>b=g∨X b) w w'∧BldAt w' g (l++bts s) X:=by
 refine F22_call ?_
 unfold F22
 refine (zk4 h).mono ?_
 rintro _ w1 ⟨hc1,hs1,v,hB,hr,hx⟩
 have hlt:=hB.lt
 refine NIL.mk rfl ?_
 refine zaa (off:=1) (by kernel_rfl) ?_
 have hcell:∀ j,w1.cell? ⟨g,j,none⟩=[Value.pointer (some ⟨g,0,none⟩),v].toArray[j]?:=fun j=>Lib.cell_of_heap hB j
 have hvo:v.oneCell'=true:=by
   rcases hr.2 with ⟨rfl,_⟩ | ⟨_,_,_,rfl,_⟩<;>rfl
 refine ztK zvQ (zh8 (hcell 1)) ?_
 refine zjp hr hs (by omega) fun v' w2 hr' hg hx'=>?_
 have hB2:Blk g 56 w2 [.pointer (some ⟨g,0,none⟩),v]:=hB.keep (hg.block g hlt fun e=>znB hr e.symm)
 have hvo':v'.oneCell'=true:=by
   rcases hr'.2 with ⟨rfl,_⟩ | ⟨_,_,_,rfl,_⟩<;>rfl
 refine NIL.mk rfl ?_
 refine zaa (off:=1) (by kernel_rfl) ?_
 have hB2':=hB2
 unfold Blk at hB2'
 refine zrT zvQ ⟨_,_,hB2'⟩ (zh8 (Lib.cell_of_heap hB2' 1)) hvo hvo' fun w3 hc3 hr3=>?_
 refine zeu (by kernel_rfl) ?_
 obtain ⟨c',hb3,hcs⟩:=hc3.cell _ _ hB2'
 have h0:c'[0]?=some (.pointer (some ⟨g,0,none⟩)):=hcs 0 (.inl (by omega))
 have h2:c'[2]?=none:=hcs 2 (.inr (by omega))
 have h1:c'[1]?=some v':=by
   have:=hr3 0 v' rfl
   rw [Lib.cell_of_heap hb3] at this;exact this
 have hce:c'=#[.pointer (some ⟨g,0,none⟩),v']:=by
   have hsz:c'.size=2:=by
     have a1:=(Array.getElem?_eq_some_iff.1 h1).1
     have a2:=Array.getElem?_eq_none_iff.1 h2
     omega
   apply Array.ext (by simpa using hsz)
   intro i hi1 hi2
   have hi:i=0∨i=1:=by omega
   rcases hi with rfl | rfl
   · rw [Array.getElem?_eq_getElem hi1] at h0;simpa using h0
   rw [Array.getElem?_eq_getElem hi1] at h1;simpa using h1
 subst hce
 have hgx:∀ k,v.ownBlock=some k→X k:=hx
 refine ⟨zrA (zrA (zvV hc1 (by simp)) ⟨hg.os,hg.tape,hg.output,hg.size,fun b hb hn=>hg.block b hb fun e=>hn (.inr (hgx b e.symm))⟩) (zvV hc3.chg (by simp)),_,v',hb3,.inr rfl,?_,?_⟩
 · rw [zh6,List.length_append,za5]
   exact hr'.kept (row:=some g) ⟨hc3.chg.os,hc3.chg.tape,hc3.chg.output,hc3.chg.size,fun k hk hn=>hc3.chg.block k hk (by simpa using fun e=>hn (by rw [e]))⟩ (.inr (znB hr'))
 intro k hk
 rcases hx' k hk with h | h
 · exact hx k h
 exact hX k (by omega)
theorem zj8 (h:BldAt w g l X):CALL Tryz.prog 26 [.pointer (some ⟨g,0,none⟩)] w fun r w'=>Ext w w'∧r=.int .i64 (l.length:Int):=by
 obtain ⟨p,v,h1,h2,h3,h4,hB⟩:=zh7 h
 refine ⟨(Any.Builder_Len Tryz.laysN170 g g _ w (h2.elim (fun e=>.inl (e▸hB)) (fun e=>.inr (e▸hB)))).mono ?_⟩
 rintro e w' ⟨he,rfl⟩
 exact ⟨_,he,Ext.refl _,by simp [Lib.byteCells]⟩
theorem zhs {w0:World} (h:BldAt w g l X) (h0:Ext w0 w) (hg:w0.heap.size≤g):CALL Tryz.prog 27 [.pointer (some ⟨g,0,none⟩)] w fun r w'=>Ext w0 w'∧r=.string ⟨l.toArray⟩:=by
 obtain ⟨p,v,h1,h2,h3,h4,hB⟩:=zh7 h
 refine ⟨(Any.Builder_String_any Tryz.laysN169 zvF g g l w (h2.elim (fun e=>.inl (e▸hB)) (fun e=>.inr (e▸hB))) (Nat.le_of_lt h.lt)).mono ?_⟩
 rintro e w' ⟨he,hb⟩
 exact ⟨_,he,⟨hb.os.trans h0.os,hb.tape.trans h0.tape,hb.output.trans h0.output,Nat.le_trans h0.size hb.size,fun i hi=>(hb.block i (by omega)).trans (h0.block i hi)⟩,rfl⟩
end
end Go.Proofs.YtbnjpfjjmhodnaaGreatDoor
namespace Go.Proofs.YtbnjpfjjmhodnaaGreatDoor
open Go.Shelf
def Tryz.laysM171_ren:Go.Shelf.Ren:=⟨fun | 171=>55 | 243=>104 | 246=>154 | 283=>193 | 284=>194 | 285=>195 | 286=>196 | 129=>168 | 317=>221 | 318=>222 | 319=>223 | 320=>224 | 337=>230 | 338=>231 | n=>n,fun | 3=>3 | 9=>9 | 2=>2 | 4=>4 | 171=>208 | 0=>0 | 53=>154 | 37=>39 | 5=>5 | 173=>210 | 212=>228 | 51=>192 | 20=>20 | 213=>229 | 46=>139 | 232=>237 | 233=>238 | n=>n,fun | 17=>0 | 18=>1 | 19=>2 | n=>n⟩
theorem Tryz.laysM171:Go.Proofs.LaysM.n171 Tryz.prog Tryz.laysM171_ren where
 mixed:=by kernel_rfl
 f129:=Tryz.func168.trans (congrArg some (by kernel_rfl))
 f171:=Tryz.func55.trans (congrArg some (by kernel_rfl))
 f243:=Tryz.func104.trans (congrArg some (by kernel_rfl))
 f246:=Tryz.func154.trans (congrArg some (by kernel_rfl))
 f283:=Tryz.func193.trans (congrArg some (by kernel_rfl))
 f284:=Tryz.func194.trans (congrArg some (by kernel_rfl))
 f285:=Tryz.func195.trans (congrArg some (by kernel_rfl))
 f286:=Tryz.func196.trans (congrArg some (by kernel_rfl))
 f317:=Tryz.func221.trans (congrArg some (by kernel_rfl))
 f318:=Tryz.func222.trans (congrArg some (by kernel_rfl))
 f319:=Tryz.func223.trans (congrArg some (by kernel_rfl))
 f320:=Tryz.func224.trans (congrArg some (by kernel_rfl))
 f337:=Tryz.func230.trans (congrArg some (by kernel_rfl))
 f338:=Tryz.func231.trans (congrArg some (by kernel_rfl))
 t0:=Tryz.underlying0
 a0:=Tryz.isAgg0
 z0:=Tryz.sizeOf0
 v0:=Tryz.zeroValue0
 t2:=Tryz.underlying2
 a2:=Tryz.isAgg2
 z2:=Tryz.sizeOf2
 v2:=Tryz.zeroValue2
 t3:=Tryz.underlying3
 a3:=Tryz.isAgg3
 z3:=Tryz.sizeOf3
 v3:=Tryz.zeroValue3
 t4:=Tryz.underlying4
 a4:=Tryz.isAgg4
 z4:=Tryz.sizeOf4
 v4:=Tryz.zeroValue4
 t5:=Tryz.underlying5
 a5:=Tryz.isAgg5
 z5:=Tryz.sizeOf5
 v5:=Tryz.zeroValue5
 t9:=Tryz.underlying9
 a9:=Tryz.isAgg9
 z9:=Tryz.sizeOf9
 v9:=Tryz.zeroValue9
 t20:=Tryz.underlying20
 a20:=Tryz.isAgg20
 z20:=Tryz.sizeOf20
 v20:=Tryz.zeroValue20
 t37:=Tryz.underlying39
 a37:=Tryz.isAgg39
 z37:=Tryz.sizeOf39
 v37:=Tryz.zeroValue39
 t46:=Tryz.underlying139
 a46:=Tryz.isAgg139
 z46:=Tryz.sizeOf139
 v46:=Tryz.zeroValue139
 t51:=Tryz.underlying192
 a51:=Tryz.isAgg192
 z51:=Tryz.sizeOf192
 v51:=Tryz.zeroValue192
 t53:=Tryz.underlying154
 a53:=Tryz.isAgg154
 z53:=Tryz.sizeOf154
 v53:=Tryz.zeroValue154
 t171:=Tryz.underlying208
 a171:=Tryz.isAgg208
 z171:=Tryz.sizeOf208
 v171:=Tryz.zeroValue208
 t173:=Tryz.underlying210
 a173:=Tryz.isAgg210
 z173:=Tryz.sizeOf210
 v173:=Tryz.zeroValue210
 t212:=Tryz.underlying228
 a212:=Tryz.isAgg228
 z212:=Tryz.sizeOf228
 v212:=Tryz.zeroValue228
 t213:=Tryz.underlying229
 a213:=Tryz.isAgg229
 z213:=Tryz.sizeOf229
 t232:=Tryz.underlying237
 a232:=Tryz.isAgg237
 z232:=Tryz.sizeOf237
 v232:=Tryz.zeroValue237
 t233:=Tryz.underlying238
 a233:=Tryz.isAgg238
 z233:=Tryz.sizeOf238
 v233:=Tryz.zeroValue238
 g17:=by kernel_rfl
 g18:=by kernel_rfl
 g19:=by kernel_rfl
 i0:=by kernel_rfl
 i2:=by kernel_rfl
 i3:=by kernel_rfl
 i4:=by kernel_rfl
 i5:=by kernel_rfl
 i9:=by kernel_rfl
 i20:=by kernel_rfl
 i37:=by kernel_rfl
 i46:=by kernel_rfl
 i51:=by kernel_rfl
 i53:=by kernel_rfl
 i171:=by kernel_rfl
 i173:=by kernel_rfl
 i212:=by kernel_rfl
 i232:=by kernel_rfl
 i233:=by kernel_rfl
 m17:=by kernel_rfl
 m18:=by kernel_rfl
 m19:=by kernel_rfl
end Go.Proofs.YtbnjpfjjmhodnaaGreatDoor
namespace Go.Proofs.YtbnjpfjjmhodnaaGreatDoor
open Go Go.Sh Go.Proofs
def F18 (a0:Value) (w:World) (R:VW):Prop:=
 rN 23 3 a0 w fun x6=>
 oP (Instr.makeSlice 23 x6 x6) w fun x7 w=>
 LOOPI [4] [(iV 0)] w fun u3 w next3=>
 rN 23 3 a0 w fun x10=>
 rC (u3 4) x10 w fun x11=>
 BR x11
 (rX 23 a0 (u3 4) w fun x18=>
 rL 3 x18 w fun x19=>
 rX 23 x7 (u3 4) w fun x20=>
 oS 3 x20 x19 w fun w=>
 rA (u3 4) (iV 1) w fun x13=>
 next3 [x13] w)
 (R x7 w)
def cfg18:Cfg:=⟨extL,[],[(3,2096912,[4])],[],[],[],[]⟩
theorem F18_call {a0:Value} {w:World} {R:VW} (h:F18 a0 w R):cL 18 [a0] w R:=co (g:=cfg18) Tryz.func18 (by kernel_rfl) (by kernel_rfl) (by kernel_rfl) h
def F29 (a0 a1:Value) (w:World) (R:VW):Prop:=
 rN 23 3 a0 w fun x7=>
 rN 23 3 a1 w fun x9=>
 rB .neq 3 T0 T0 x7 x9 w fun x10=>
 BR x10
 (R (Value.bool false) w)
 (LOOPI [5] [(iV 0)] w fun u4 w next4=>
 rN 23 3 a0 w fun x13=>
 rC (u4 5) x13 w fun x14=>
 BR x14
 ((fun w=>rX 23 a0 (u4 5) w fun x19=>
 rL 3 x19 w fun x20=>
 rX 23 a1 (u4 5) w fun x23=>
 rL 3 x23 w fun x24=>
 rB .neq 3 T0 T0 x20 x24 w fun x25=>
 BR x25
 (R (Value.bool false) w)
 (rA (u4 5) (iV 1) w fun x16=>
 next4 [x16] w)) (World.drew1 w))
 (R (Value.bool true) w))
def cfg29:Cfg:=⟨extL,[],[(4,67106864,[5])],[(6,[0,1,2,3,4,5,6,7,8],0)],[],[],[]⟩
theorem F29_call {a0 a1:Value} {w:World} {R:VW} (h:F29 a0 a1 w R):cL 29 [a0,a1] w R:=co (g:=cfg29) Tryz.func29 (by kernel_rfl) (by kernel_rfl) (by kernel_rfl) h
theorem zj9:tyI Tryz.prog 3=some (1,8,false):=by kernel_rfl
theorem zv3:zbm Tryz.prog 3=true:=by kernel_rfl
theorem zi9:Tryz.prog.underlying 23=some (.slice 3):=by kernel_rfl
theorem ztP {w:World} {x:Int} (h:I64 x):Mine [] w (.int .i64 x) x:=⟨⟨_,⟨rfl,rfl,h⟩,rfl⟩,List.nodup_nil,Wr.nil w⟩
theorem zpN {w:World} {v:Value} {l:List Int} (h:Is w v l) (hn:l.length≤1048576) :
   CALL Tryz.prog 18 [v] w fun r w'=>Ext w w'∧Own w.heap.size w' r l:=by
 refine F18_call ?_
 unfold F18
 refine zag zi9 h ?_
 refine zj1 (α:=Int) zi9 zj9 zv3 (by omega) (by omega) fun w1 hx1 hf=>?_
 refine zaq l.length (fun k us w'=>us=[.int .i64 (k:Int)]∧Ext w w'∧Fill w.heap.size 3 l.length [] w' (l.take k)) 0 (Nat.zero_le _) ⟨rfl,hx1,by simpa using hf⟩ ?_
 rintro k m u w2 hkm ⟨hu,hx2,hf2⟩
 simp only [List.map_cons,List.map_nil,List.cons.injEq,and_true] at hu
 rw [hu]
 refine zag zi9 h ?_
 refine zah ?_
 refine br (fun hlt=>?_) (fun hge=>?_)
 · have hk:k<l.length:=by omega
   refine zad zi9 zj9 h hk fun b o hA=>?_
   refine zab zj9 hA hx2 fun hI=>?_
   refine zdy zi9 zj9 hk ?_
   refine zhw (α:=Int) zj9 hf2 (by simp [Rep.size];omega) (by simp;omega) (ztP hI) (by simp) fun w3 hc3 hf3=>?_
   refine zaf (by have:=zam h;omega) ?_
   refine ⟨m-1,by omega,k+1,by omega,rfl,hx2.chg_trans hc3 (by simp),?_⟩
   rw [List.take_succ_eq_append_getElem hk]
   simpa using hf3
 have hk:k=l.length:=by omega
 subst hk
 rw [List.take_length] at hf2
 exact ⟨hx2,_,hf2.own rfl (by rw [zan];omega),by simp⟩
theorem zpO {w w1 w2:World} {v1 v2:Value} {l1 l2:List Int} (h1:Is w1 v1 l1) (h2:Is w2 v2 l2) (hx1:Ext w1 w) (hx2:Ext w2 w) :
   CALL Tryz.prog 29 [v1,v2] w fun r w'=>Ext w w'∧r=.bool (decide (l1=l2)):=by
 refine F29_call ?_
 unfold F29
 refine zag zi9 h1 ?_
 refine zag zi9 h2 ?_
 refine zaI ?_
 refine br (fun hne=>?_) (fun heq=>?_)
 · refine ⟨Ext.refl w,?_⟩
   have:l1≠l2:=fun e=>hne (by rw [e])
   simp [this]
 have hl:l1.length=l2.length:=by omega
 refine zaq l1.length (fun k us w'=>us=[.int .i64 (k:Int)]∧Ext w w'∧l1.take k=l2.take k) 0 (Nat.zero_le _) ⟨rfl,Ext.refl w,by simp⟩ ?_
 rintro k m u w3 hkm ⟨hu,hx3,heq3⟩
 simp only [List.map_cons,List.map_nil,List.cons.injEq,and_true] at hu
 rw [hu]
 refine zag zi9 h1 ?_
 refine zah ?_
 refine br (fun hlt=>?_) (fun hge=>?_)
 · have hk:k<l1.length:=by omega
   have hk2:k<l2.length:=by omega
   have hx4:=hx3.trans (zak w3)
   refine zad zi9 zj9 h1 hk fun b o hA=>?_
   refine zab zj9 hA (hx1.trans hx4) fun hI=>?_
   refine zad zi9 zj9 h2 hk2 fun b o hA=>?_
   refine zab zj9 hA (hx2.trans hx4) fun hI=>?_
   refine zaI ?_
   refine br (fun hne=>?_) (fun he=>?_)
   · refine ⟨hx4,?_⟩
     have:l1≠l2:=fun e=>hne (by subst e;rfl)
     simp [this]
   refine zaf (by have:=zam h1;omega) ?_
   refine ⟨m-1,by omega,k+1,by omega,rfl,hx4,?_⟩
   rw [List.take_succ_eq_append_getElem hk,List.take_succ_eq_append_getElem hk2,heq3,Decidable.not_not.1 he]
 refine ⟨hx3,?_⟩
 have hk:l1.length≤k:=by omega
 rw [List.take_of_length_le hk,List.take_of_length_le (by omega)] at heq3
 simp [heq3]
def cnt (k:Int) (n:Nat):List Int:=(List.range n).map fun i:Nat=>k+(i:Int)
theorem ztQ {P:Program} {w:World} {K:Value→Prop} {t:TypeId} {x y:Operand} {a b:Bool} (ht:P.underlying t=some .bool) (k:K (.bool (decide (a≠b)))):RD P (bin .neq t x y (.bool a) (.bool b)) w K:=
 za0 (fun w' _=>by
   have:=run_neq_bool (P:=P) w' t a b ht
   cases a<;>cases b<;>simp_all [bin,eqGuard]) k
def sm {α:Type} (f:α→Nat) (l:List α):Nat:=(l.map f).sum
theorem zmx {α:Type} (f:α→Nat) {l:List α} {k:Nat} (h:k<l.length):sm f (l.take (k+1))=sm f (l.take k)+f l[k]:=by
 unfold sm
 rw [List.take_succ_eq_append_getElem h,List.map_append,List.sum_append]
 simp
theorem ztb {α:Type} (f:α→Nat) {l:List α} {x:α} (h:x∈l):f x≤sm f l:=by
 unfold sm
 induction l with
 | nil=>cases h
 | cons y l ih=>
   rw [List.map_cons,List.sum_cons]
   rcases List.mem_cons.1 h with rfl | h
   · omega
   have:=ih h;omega
theorem zoz {w w1 w2:World} {v1 v2:Value} {l1 l2:List Int} (h1:Is w1 v1 l1) (hx1:Ext w1 w) (h2:Is w2 v2 l2) (hx2:Ext w2 w) :
   CALL Tryz.prog 29 [v1,v2] w fun r w'=>Ext w w'∧r=.bool (decide (l1=l2)):=zpO h1 h2 hx1 hx2
def F10 (a0 a1:Value) (w:World) (R:VW):Prop:=
 rN 23 3 a0 w fun x7=>
 rB .sub 3 T0 T0 a1 x7 w fun x8=>
 rB .lss 3 T0 U0 x8 (iV 0) w fun x10=>
 BR x10
 (R (iV (-1)) w)
 (R x8 w)
def cfg10:Cfg:=⟨extL,[],[],[],[],[],[]⟩
theorem F10_call {a0 a1:Value} {w:World} {R:VW} (h:F10 a0 a1 w R):cL 10 [a0,a1] w R:=co (g:=cfg10) Tryz.func10 (by kernel_rfl) (by kernel_rfl) (by kernel_rfl) h
theorem zpP {w:World} {v0:Value} {W0:World} {l:(List Int)} {left:Int}  (h0:Is W0 v0 l) (e0:Ext W0 w) (hl0:-1≤left) (hl1:left≤1048576) :
   CALL Tryz.prog 10 [v0,.int .i64 left] w fun r w'=>Ext w w'∧(∃ n:Int,r=.int .i64 n∧-1≤n∧n≤left∧(0≤n→n+l.length≤left)):=by
 refine F10_call ?_
 unfold F10
 have hl:=zam h0
 have hln7:=zam h0
 refine zag u23 h0 ?_
 refine zbf (by unfold I64;omega) ?_
 refine zah ?_
 refine br (fun c1=>?_) (fun c1=>?_)
 · refine ⟨Ext.refl w,?_⟩
   exact ⟨-1,rfl,by omega,by omega,by omega⟩
 refine ⟨Ext.refl w,?_⟩
 exact ⟨_,rfl,by omega,by omega,by omega⟩
def F38 (a0 a1 a2:Value) (w:World) (R:VW):Prop:=
 rB .geq 3 T0 T0 a0 a1 w fun x9=>
 BR x9
 (rB .leq 3 T0 T0 a0 a2 w fun x13=>
 R x13 w)
 (R (Value.bool false) w)
def cfg38:Cfg:=⟨extL,[],[],[],[],[],[]⟩
theorem F38_call {a0 a1 a2:Value} {w:World} {R:VW} (h:F38 a0 a1 a2 w R):cL 38 [a0,a1,a2] w R:=co (g:=cfg38) Tryz.func38 (by kernel_rfl) (by kernel_rfl) (by kernel_rfl) h
theorem l01In_ok {w:World} {a:Int} {b:Int} {c:Int}    :
   CALL Tryz.prog 38 [.int .i64 a,.int .i64 b,.int .i64 c] w fun r w'=>Ext w w'∧(r=.bool (decide (b≤a∧a≤c))):=by
 refine F38_call ?_
 unfold F38
 refine zb9 ?_
 refine br (fun c1=>?_) (fun c1=>?_)
 · refine zdw ?_
   refine ⟨Ext.refl w,?_⟩
   simp [c1]
 refine ⟨Ext.refl w,?_⟩
 simp [c1]
def zu1 (s:DState) (t:Int):Int:=if h:0≤t∧t.toNat<s.stacks.length then (s.stacks[t.toNat]'h.2).getLastD (-1) else -1
def F23 (a0:Value) (w:World) (R:VW):Prop:=
 cL 55 [a0] w fun x4 w=>
 R x4 w
def cfg23:Cfg:=⟨extL,[],[],[],[],[],[]⟩
theorem F23_call {a0:Value} {w:World} {R:VW} (h:F23 a0 w R):cL 23 [a0] w R:=co (g:=cfg23) Tryz.func23 (by kernel_rfl) (by kernel_rfl) (by kernel_rfl) h
def F78 (a0:Value) (w:World) (R:VW):Prop:=
 rB .lss 3 T0 U0 a0 (iV 10) w fun x4=>
 BR x4
 (rB .add 3 U0 T0 (iV 48) a0 w fun x6=>
 rD (convert 3 5 x6) w fun x7=>
 R x7 w)
 (rB .add 3 U0 T0 (iV 97) a0 w fun x9=>
 rB .sub 3 T0 U0 x9 (iV 10) w fun x10=>
 rD (convert 3 5 x10) w fun x11=>
 R x11 w)
def cfg78:Cfg:=⟨extL,[],[],[],[],[],[]⟩
theorem F78_call {a0:Value} {w:World} {R:VW} (h:F78 a0 w R):cL 78 [a0] w R:=co (g:=cfg78) Tryz.func78 (by kernel_rfl) (by kernel_rfl) (by kernel_rfl) h
def F39 (a0:Value) (w:World) (R:VW):Prop:=
 rB .eql 3 T0 U0 a0 (iV 0) w fun x7=>
 BR x7
 (R (Value.string (ByteArray.mk #[48])) w)
 (rB .lss 3 T0 U0 a0 (iV 0) w fun x9=>
 LOOPI [0,4] [a0,(Value.string (ByteArray.mk #[]))] w fun u5 w next5=>
 rB .neq 3 T0 U0 (u5 0) (iV 0) w fun x11=>
 BR x11
 (rB .rem 3 T0 U0 (u5 0) (iV 10) w fun x13=>
 JOIN [5] (fun J9=>
 rB .lss 3 T0 U0 x13 (iV 0) w fun x15=>
 BR x15
 (rD (Op.unary .neg x13) w fun x17=>
 J9 [x17] w)
 (J9 [x13] w)) (fun u9 w=>
 cL 78 [(u9 5)] w fun x19 w=>
 oP (Instr.buildSlice 39 1 #[(0,x19)]) w fun x20 w=>
 rD (convert 39 9 x20) w fun x21=>
 rB .add 9 T0 T0 x21 (u5 4) w fun x23=>
 rB .quo 3 T0 U0 (u5 0) (iV 10) w fun x25=>
 next5 [x25,x23] w))
 (BR x9
 (rB .add 9 U0 T0 (Value.string (ByteArray.mk #[45])) (u5 4) w fun x28=>
 R x28 w)
 (R (u5 4) w)))
def cfg39:Cfg:=⟨extL,[(9,245792,[5])],[(5,67107889,[0,4])],[],[],[],[]⟩
theorem F39_call {a0:Value} {w:World} {R:VW} (h:F39 a0 w R):cL 39 [a0] w R:=co (g:=cfg39) Tryz.func39 (by kernel_rfl) (by kernel_rfl) (by kernel_rfl) h
open Rep (rep)
def PowT (w:World):Prop:=Lib.TabIs Tryz.prog w "internal/strconv.uint64pow10" .u64 Lib.pow10Tab
theorem PowT.ext {w w':World} (h:PowT w) (hx:Ext w w'):PowT w':=by
 unfold PowT Lib.TabIs World.var? at *
 obtain ⟨g,hg⟩:∃ g,Tryz.prog.globalNamed "internal/strconv.uint64pow10" = some g:=by
   cases e:Tryz.prog.globalNamed "internal/strconv.uint64pow10" with
   | none=>simp [e] at h
   | some g=>exact ⟨g,rfl⟩
 simp only [hg,Option.bind_some] at h ⊢
 rcases Nat.lt_or_ge g w.heap.size with hl | hl
 · rw [hx.block g hl];exact h
 rw [Array.getElem?_eq_none hl] at h;simp at h
def zpQ (n:Int):ByteArray:=⟨(Lib.itoa n).toArray⟩
theorem zpR (w:World) (k:Nat) (os:Array Obj):Ext w (Go.Sort.grow (w.drewN k) os):=
 ⟨rfl,rfl,rfl,by simp [Go.Sort.grow,World.drewN],fun i hi=>by
   rw [Go.Sort.heap_grow_old _ _ (by simpa [World.drewN] using hi)];rfl⟩
theorem ztR {w:World} {n:Int} (hT:PowT w) (hn:I64 n) :
   CALL Tryz.prog 55 [.int .i64 n] w fun r w'=>Ext w w'∧r=.string (zpQ n):=by
 refine ⟨(Any.strconv_Itoa Tryz.laysM171 n hn.1 hn.2 w hT).mono ?_⟩
 rintro e w' ⟨he,k,os,rfl⟩
 exact ⟨_,he,zpR w k os,rfl⟩
theorem zfI {w W0:World} {n:Int} (hT:PowT W0) (e0:Ext W0 w) (hn:I64 n) :
   CALL Tryz.prog 23 [.int .i64 n] w fun r w'=>Ext w w'∧r=.string (zpQ n):=by
 refine F23_call ?_
 unfold F23
 refine (ztR (hT.ext e0) hn).mono ?_
 rintro _ w1 ⟨hx1,rfl⟩
 exact ⟨hx1,rfl⟩
theorem zgk {u:Nat} (h:u<10):Lib.decDigits u=[UInt8.ofNat (48+u)]:=Lib.decDigits_one h
theorem znC {u:Nat} (h:¬u<10):Lib.decDigits u=Lib.decDigits (u / 10)++[UInt8.ofNat (48+u%10)]:=by
 rw [Lib.decDigits,dif_neg h]
theorem zpS {w:World} {d:Nat} (hd:d<10) :
   CALL Tryz.prog 78 [.int .i64 (d:Int)] w fun r w'=>Ext w w'∧r=.int .u8 ((UInt8.ofNat (48+d)).toNat:Int):=by
 refine F78_call ?_
 unfold F78
 refine zah ?_
 refine br (fun _=>?_) (fun h=>by omega)
 refine znt (by unfold I64;omega) ?_
 rw [show (48:Int)+(d:Int)=((48+d:Nat):Int) by omega]
 refine ztN (by kernel_rfl) u5 (by omega) ?_
 exact ⟨Ext.refl _,rfl⟩
theorem zu2 {P:Program} {w:World} {K:Value→Prop} {a:Int} (h:I64 (-a)) (k:K (.int .i64 (-a))):RD P (Op.unary .neg (.int .i64 a)) w K:=
 za0 (fun w' _=>by
   have h':I64 (0-a):=by rw [Int.zero_sub];exact h
   simp [Op.unary,Op.intArith,IntWalk.i64_in _ h',IntWalk.i64_in _ h]) k
theorem zpT:∀ k u:Nat,u<10^(k+1)→(Lib.decDigits u).length≤k+1
 | 0,u,hu=>by rw [zgk (by omega)];simp
 | k+1,u,hu=>by
   by_cases h:u<10
   · rw [zgk h];simp
   rw [znC h,List.length_append]
   have:=zpT k (u / 10) (by rw [Nat.div_lt_iff_lt_mul (by omega)];rw [Nat.pow_succ] at hu;exact hu)
   simp only [List.length_singleton];omega
theorem zpU {u:Nat} (hu:u≤9223372036854775808):(Lib.decDigits u).length≤20:=zpT 19 u (by omega)
theorem zfk (n:Int) (hn:I64 n):(zpQ n).size≤21:=by
 unfold I64 at hn
 show (Lib.itoa n).toArray.size≤21
 rw [List.size_toArray]
 unfold Lib.itoa
 split
 · have:=zpU (u:=n.natAbs) (by omega);simp only [List.length_cons];omega
 have:=zpU (u:=n.toNat) (by omega);omega
theorem zrV {m:Nat} (hm:m≠0) (s:ByteArray):(m / 10≠0→Lib.decDigits m++bts s=Lib.decDigits (m / 10)++bts (⟨[UInt8.ofNat (48+m%10)].toArray⟩++s))∧(m / 10=0→Lib.decDigits m++bts s=bts (⟨[UInt8.ofNat (48+m%10)].toArray⟩++s)):=by
 have e:bts ((⟨[UInt8.ofNat (48+m%10)].toArray⟩:ByteArray)++s)=UInt8.ofNat (48+m%10) :: bts s:=by
   simp [bts,ByteArray.data_append]
 constructor
 · intro h
   rw [znC (by omega),e];simp
 intro h
 rw [zgk (by omega),e,Nat.mod_eq_of_lt (by omega)];simp
theorem zfJ {w:World} {n:Int} (hn:I64 n) :
   CALL Tryz.prog 39 [.int .i64 n] w fun r w'=>Ext w w'∧r=.string (zpQ n):=by
 refine F39_call ?_
 unfold F39
 have hn':=hn
 unfold I64 at hn'
 refine zao ?_
 refine br (fun h0=>?_) (fun h0=>?_)
 · refine ⟨Ext.refl _,?_⟩
   subst h0
   unfold zpQ Lib.itoa
   rw [if_neg (by omega),show (0:Int).toNat=0 from rfl,zgk (by omega)]
   rfl
 refine zah ?_
 have hN20:(Lib.decDigits n.natAbs).length≤20:=zpU (by omega)
 refine LOOPI.mk (fun m us w'=>∃ (x:Int) (s:ByteArray),us=[.int .i64 x,.string s]∧Ext w w'∧x.natAbs=m∧I64 x∧(m≠0→Lib.decDigits n.natAbs=Lib.decDigits m++bts s)∧(m=0→Lib.decDigits n.natAbs=bts s)) n.natAbs ⟨n,⟨#[]⟩,rfl,Ext.refl _,rfl,hn,fun _=>by simp [bts],fun h=>by omega⟩ ?_
 rintro m q w1 ⟨x,s,hq,hx1,hxm,hI,hA,hB⟩
 obtain ⟨hq1,hq2⟩:=zb1 hq
 rw [hq1,hq2]
 refine zaI ?_
 refine br (fun hne=>?_) (fun heq=>?_)
 · have hm0:m≠0:=by omega
   have hd:=hA hm0
   have hs20:s.size≤20:=by
     have:=congrArg List.length hd
     rw [List.length_append,za5] at this;omega
   have hmod:(x.tmod 10=((m%10:Nat):Int)∧¬x<0)∨(x.tmod 10=-((m%10:Nat):Int)∧x<0):=by
     rcases Int.natAbs_eq x with e | e
     · left
       refine ⟨?_,by omega⟩
       rw [e,hxm];rfl
     right
     refine ⟨?_,by omega⟩
     rw [e,hxm,Int.neg_tmod];rfl
   have hdiv:(x.tdiv 10).natAbs=m / 10:=by
     rw [Int.natAbs_tdiv,hxm];rfl
   have hIq:I64 (x.tdiv 10):=by
     unfold I64 at hI ⊢
     have:m / 10≤m:=Nat.div_le_self _ _
     omega
   refine zuJ (by omega) ?_
   refine JOIN.mk (fun us w'=>w'=w1∧us=[.int .i64 ((m%10:Nat):Int)]) ?_ ?_
   · refine zah ?_
     refine br (fun hl=>?_) (fun hl=>?_)
     · refine zu2 (by unfold I64;omega) ?_
       rcases hmod with ⟨h,_⟩ | ⟨h,_⟩
       · omega
       rw [h,Int.neg_neg];exact ⟨rfl,rfl⟩
     rcases hmod with ⟨h,_⟩ | ⟨h,_⟩
     · rw [h];exact ⟨rfl,rfl⟩
     have:((m%10:Nat):Int)=0:=by omega
     rw [h,this];exact ⟨rfl,rfl⟩
   rintro q9 w2 ⟨rfl,hq9⟩
   simp only [List.map_cons,List.map_nil,List.cons.injEq,and_true] at hq9
   rw [hq9]
   refine (zpS (Nat.mod_lt _ (by omega))).mono ?_
   rintro _ w3 ⟨hx3,rfl⟩
   refine zoy (α:=UInt8) u39 ty5 z5 (by decide) (ztM (lo:=w3.heap.size) (hi:=w3.heap.size)) (Nat.le_refl _) fun v4 w4 hx4 ho4=>?_
   refine zhZ u39 u5 u9 ho4.is (Ext.refl _) ?_
   refine zbS (by show 1+s.size≤9223372036854775807;omega) ?_
   refine zuQ (by omega) hIq ?_
   have hst:=zrV hm0 s
   refine ⟨m / 10,Nat.div_lt_self (by omega) (by omega),_,_,rfl,(hx1.trans hx3).trans hx4,hdiv,hIq,fun h=>hd.trans (hst.1 h),fun h=>hd.trans (hst.2 h)⟩
 have hm0:m=0:=by omega
 have hd:=hB hm0
 have hs20:s.size≤20:=by
   have:=congrArg List.length hd
   rw [za5] at this;omega
 refine br (fun hneg=>?_) (fun hpos=>?_)
 · refine zbS (by show 1+s.size≤9223372036854775807;omega) ?_
   refine ⟨hx1,?_⟩
   congr 1
   refine zmt ?_
   unfold zpQ Lib.itoa
   rw [if_pos hneg,hd]
   simp [bts,ByteArray.data_append]
 refine ⟨hx1,?_⟩
 congr 1
 refine zmt ?_
 unfold zpQ Lib.itoa
 rw [if_neg hpos,show n.toNat=n.natAbs by omega,hd]
 simp [bts]
end Go.Proofs.YtbnjpfjjmhodnaaGreatDoor
namespace Go.Sh
open Rep (rep)
def zdC (P:Program) (t:TypeId) (α:Type) [Rep α] (n:Nat):Prop:=
 ∀ (H:Type) (enc:TypeId×Value→H) (w:World) (spare:Nat→Bool) (held:Bool) (cs:List Value) (y:DataW H×List MemPlace),DataW.trod enc P w 0 spare held n t cs=some y→∃ F x,rep F w cs (x:α)
section
variable {P:Program} {t:TypeId}
theorem zd9 (ht:P.underlying t=some (.int .i64)) (n:Nat):zdC P t Int n:=by
 intro H enc w spare held cs y h
 obtain ⟨m,rfl,_,hw⟩:=DataW.trod_int ht h
 refine ⟨[],m,rfl,rfl,?_⟩
 simpa [Lit.wf,IntKind.min,IntKind.max,IntKind.signed,IntKind.bits,I64] using hw
theorem zk5 (ht:P.underlying t=some .string) (n:Nat):zdC P t ByteArray n:=by
 intro H enc w spare held cs y h
 obtain ⟨s,rfl,_,hs⟩:=DataW.trod_string ht h
 exact ⟨[],s,rfl,rfl,hs⟩
theorem zk6 {α β:Type} {f:α→Option β}:∀ {l:List α} {r:List β},l.mapM f=some r→l.length=r.length∧∀ (i:Nat) x,l[i]?=some x→∃ y,f x=some y∧r[i]?=some y
 | [],r,h=>by simp at h;subst h;simp
 | a :: l,r,h=>by
   simp only [List.mapM_cons,Option.pure_def,Option.bind_eq_bind,Option.bind_eq_some_iff,Option.some.injEq] at h
   obtain ⟨b,hb,bs,hbs,rfl⟩:=h
   obtain ⟨h1,h2⟩:=zk6 hbs
   refine ⟨by simp [h1],fun i x hx=>?_⟩
   cases i with
   | zero=>simp at hx;subst hx;exact ⟨b,hb,by simp⟩
   | succ i=>obtain ⟨y,hy,hr⟩:=h2 i x (by simpa using hx);exact ⟨y,hy,by simpa using hr⟩
theorem zmy {w:World} {a:Addr} {n:Nat} {cs:List Value} (h:w.cells? 0 a n=some cs):cs.length=n∧∀ j v,cs[j]?=some v→w.cell? (a.add j)=some v:=by
 unfold World.cells? at h
 simp only [Nat.zero_le,if_true] at h
 obtain ⟨h1,h2⟩:=zk6 h
 simp only [List.length_range] at h1
 refine ⟨h1.symm,fun j v hv=>?_⟩
 have hj:j<cs.length:=(List.getElem?_eq_some_iff.1 hv).1
 obtain ⟨y,hy,hr⟩:=h2 j j (by rw [List.getElem?_range (by omega)])
 rw [hr] at hv
 cases hv
 exact hy
theorem zpV {w:World} {a:Addr} {v:Value} (h:w.cell? a=some v):a.spot=none:=by
 unfold World.cell? at h
 split at h
 · split at h
   · cases h
   rename_i hs;simpa using hs
 cases h
theorem zk7 {α:Type} [Rep α] {w:World} {b o:Nat}:∀ (n:Nat),(∀ i,i<n→∃ (cs:List Value) (F:List Nat) (x:α),w.rangeAt b (o+i*Rep.size α) cs∧rep F w cs x) →
   ∃ (F:List Nat) (xs:List Value) (l:List α),l.length=n∧Cells F w xs l∧w.rangeAt b o xs
 | 0,_=>⟨[],[],[],rfl,⟨rfl,rfl⟩,fun j v hv=>by simp at hv⟩
 | n+1,h=>by
   obtain ⟨F,xs,l,hl,hc,hr⟩:=zk7 n fun i hi=>h i (by omega)
   obtain ⟨cs,G,x,hra,hx⟩:=h n (by omega)
   refine ⟨F++G,xs++cs,l++[x],by simp [hl],Cells.append hc (Cells.single hx),?_⟩
   intro j v hv
   have hlen:=Cells.len hc
   rw [hl] at hlen
   rcases Nat.lt_or_ge j xs.length with hj | hj
   · rw [List.getElem?_append_left hj] at hv;exact hr j v hv
   rw [List.getElem?_append_right hj] at hv
   have:=hra (j-xs.length) v hv
   rwa [show o+n*Rep.size α+(j-xs.length)=o+j by omega] at this
theorem zh9 {e:TypeId} {α:Type} [Rep α] {n:Nat} (ht:P.underlying t=some (.slice e)) (hc:P.cellsOf e=Rep.size α) (he:zdC P e α n):zdC P t (List α) (n+1):=by
 intro H enc w spare held cs y h
 rcases DataW.trod_slice ht h with ⟨rfl,_⟩ | ⟨a,len,cap,elems,rest,m,hm,rfl,_,_,h1,h2,h3,h4,_⟩
 · exact ⟨[],[],none,0,[],[],rfl,Nat.le_refl _,Nat.zero_le _,⟨rfl,rfl⟩,.inl ⟨rfl,rfl⟩⟩
 obtain rfl:m=n:=by omega
 by_cases h0:len=0
 · subst h0
   exact ⟨[],[],some a,cap,[],[],rfl,Nat.zero_le _,h2,⟨rfl,rfl⟩,.inl ⟨rfl,rfl⟩⟩
 have key:∀ i,i<len→∃ (cs:List Value) (F:List Nat) (x:α),cs.length=Rep.size α∧(∀ j v,cs[j]?=some v→w.cell? ((a.add (i*P.cellsOf e)).add j)=some v)∧rep F w cs x:=by
   intro i hi
   have hy:=h4 i hi
   rw [List.getElem?_eq_getElem (by omega)] at hy
   obtain ⟨cs,hcs,hy⟩:=Option.bind_eq_some_iff.1 hy
   obtain ⟨F,x,hx⟩:=he H enc w spare held cs _ hy
   obtain ⟨hl,hcell⟩:=zmy hcs
   exact ⟨cs,F,x,by rw [hl,hc],hcell,hx⟩
 have hsp:a.spot=none:=by
   obtain ⟨cs,F,x,hl,hcell,_⟩:=key 0 (by omega)
   have hp:=Rep.pos (α:=α)
   have:=hcell 0 (cs[0]'(by omega)) (by rw [List.getElem?_eq_getElem])
   simpa [Addr.add] using zpV this
 obtain ⟨b,o,sp⟩:=a
 simp only at hsp
 subst hsp
 obtain ⟨F,xs,l,hl,hC,hR⟩:=zk7 (α:=α) (w:=w) (b:=b) (o:=o) len fun i hi=>by
   obtain ⟨cs,F,x,_,hcell,hx⟩:=key i hi
   refine ⟨cs,F,x,fun j v hv=>?_,hx⟩
   have:=hcell j v hv
   rw [hc] at this
   rwa [Addr.add_mid,Addr.add_mid] at this
 have hb:b<w.heap.size:=zox hR (by rw [Cells.len hC,hl];exact Nat.mul_pos (by omega) Rep.pos)
 subst hl
 exact ⟨b :: F,l,some ⟨b,o,none⟩,cap,F,xs,rfl,h1,h2,hC,.inr ⟨b,o,rfl,rfl,hR,hb⟩⟩
theorem zk8 {α β:Type} [Rep β] {f:α→β} {g:β→α} (hg:∀ y,f (g y)=y) {n:Nat} (h:zdC P t β n):@zdC P t α (Rep.via f) n:=by
 intro H enc w spare held cs y hy
 obtain ⟨F,x,hx⟩:=h H enc w spare held cs y hy
 exact ⟨F,g x,show rep F w cs (f (g x)) by rw [hg];exact hx⟩
theorem zia {cs:List Value} {o a b:Nat}:(cs.drop o).take (a+b)=(cs.drop o).take a++(cs.drop (o+a)).take b:=by
 rw [List.take_add,List.drop_drop]
inductive FldR (P:Program) (n:Nat):Nat→List Field→(α:Type)→Rep α→Prop
 | one {off:Nat} {f:Field} {α:Type} [i:Rep α] (h1:f.offset=off) (h2:P.cellsOf f.type=Rep.size α) (h3:zdC P f.type α n):FldR P n off [f] α i
 | cons {off:Nat} {f:Field} {fs:List Field} {α β:Type} [i:Rep α] [j:Rep β] (h1:f.offset=off) (h2:P.cellsOf f.type=Rep.size α) (h3:zdC P f.type α n) (h4:FldR P n (off+Rep.size α) fs β j):FldR P n off (f :: fs) (α×β) inferInstance
theorem zrW {n:Nat} {H:Type} {enc:TypeId×Value→H} {w:World} {spare:Nat→Bool} {held:Bool} {cs:List Value} {off:Nat} {fs:List Field} {α:Type} {i:Rep α} (h:FldR P n off fs α i) :
   (∀ f∈fs,∃ y,DataW.trod enc P w 0 spare held n f.type ((cs.drop f.offset).take (P.cellsOf f.type))=some y)→cs.length=off+@Rep.size α i→∃ F x,@Rep.rep α i F w (cs.drop off) x:=by
 induction h with
 | @one off f α i h1 h2 h3=>
   intro hy hl
   obtain ⟨y,hf⟩:=hy f (by simp)
   subst h1
   rw [h2,List.take_of_length_le (by simp;omega)] at hf
   exact h3 _ _ _ _ _ _ _ hf
 | @cons off f fs α β i j h1 h2 h3 h4 ih=>
   intro hy hl
   obtain ⟨y,hf⟩:=hy f (by simp)
   have hl':cs.length=off+(Rep.size α+Rep.size β):=hl
   obtain ⟨F2,x2,hx2⟩:=ih (fun g hg=>hy g (by simp [hg])) (by omega)
   subst h1
   rw [h2] at hf
   obtain ⟨F1,x1,hx1⟩:=h3 _ _ _ _ _ _ _ hf
   refine ⟨F1++F2,(x1,x2),F1,F2,_,_,rfl,?_,hx1,hx2⟩
   have:=zia (cs:=cs) (o:=f.offset) (a:=Rep.size α) (b:=Rep.size β)
   rw [List.take_of_length_le (by simp;omega),List.take_of_length_le (l:=cs.drop (f.offset+Rep.size α)) (by simp;omega)] at this
   exact this
theorem zhj {fs:Array Field} {α:Type} [i:Rep α] {n:Nat} (ht:P.underlying t=some (.struct fs)) (hc:P.cellsOf t=Rep.size α) (hf:FldR P n 0 fs.toList α i):zdC P t α (n+1):=by
 intro H enc w spare held cs y h
 obtain ⟨xs,m,hm,_,hlen,hxl,hx⟩:=DataW.trod_struct ht h
 obtain rfl:m=n:=by omega
 have:=zrW (enc:=enc) (w:=w) (spare:=spare) (held:=held) (cs:=cs) hf (fun f hf=>by
   obtain ⟨k,hk,hkf⟩:=List.getElem_of_mem hf
   have h1:fs[k]?=some f:=by rw [←hkf];simp
   have h2:=hx k f h1
   have hk':k<xs.length:=by rw [hxl];simpa using hk
   rw [List.getElem?_eq_getElem hk'] at h2
   exact ⟨_,h2⟩) (by rw [hlen,hc];simp)
 simpa using this
theorem zfl {α:Type} [Rep α]:zdC P t α 0:=by intro H enc w spare held cs y h;simp [DataW.trod] at h
theorem zdD {e:TypeId} {α:Type} [Rep α] (ht:P.underlying t=some (.slice e)) (hc:P.cellsOf e=Rep.size α) (he:∀ n,zdC P e α n):∀ n,zdC P t (List α) n
 | 0=>zfl
 | n+1=>zh9 ht hc (he n)
theorem zeP {fs:Array Field} {α:Type} [i:Rep α] (ht:P.underlying t=some (.struct fs)) (hc:P.cellsOf t=Rep.size α) (hf:∀ n,FldR P n 0 fs.toList α i):∀ n,zdC P t α n
 | 0=>zfl
 | n+1=>zhj ht hc (hf n)
theorem zk9 {fs:Array Field} {α:Type} [Rep α] {H:Type} {enc:TypeId×Value→H} {w W:World} {r:Reach} {b0:Nat} {spare:Nat→Bool} {held:Bool} {v:Value} {d:DataW H} {p:List MemPlace} (ht:P.underlying t=some (.struct fs)) (ha:Rep.agg α=true) (hr:∀ n,zdC P t α n) (hv:Value.okWide P W r b0 t v)
   (h:DataW.Trod enc P w 0 spare held t v d p):∃ x:α,Is w v x:=by
 simp only [Value.okWide,ht] at hv
 obtain ⟨cs,rfl,_⟩:=hv
 obtain ⟨n,hn⟩:=h
 obtain ⟨F,x,hx⟩:=hr n H enc w spare held _ _ hn
 exact ⟨x,F,_,hx,by simp [mkv,ha,Value.cells]⟩
end
end Go.Sh
namespace Go.Sh
open Rep (rep)
inductive DTerm where
 | mk (kind num:Int) (name:ByteArray) (kids:List DTerm)
namespace DTerm
def kind:DTerm→Int | .mk k _ _ _=>k
def num:DTerm→Int | .mk _ n _ _=>n
def name:DTerm→ByteArray | .mk _ _ s _=>s
def kids:DTerm→List DTerm | .mk _ _ _ l=>l
def tup (t:DTerm):Int×Int×ByteArray×List DTerm:=(t.kind,t.num,t.name,t.kids)
end DTerm
theorem DTerm.eta (t:DTerm):DTerm.mk t.kind t.num t.name t.kids=t:=by cases t;rfl
theorem DTerm.ext_iff {x y:DTerm}:x=y↔(x.kind=y.kind∧x.num=y.num∧x.name=y.name∧x.kids=y.kids):=by
 constructor
 · intro h;rw [h];exact ⟨rfl,rfl,rfl,rfl⟩
 rintro ⟨h1,h2,h3,h4⟩
 rw [←DTerm.eta x,←DTerm.eta y,h1,h2,h3,h4]
theorem DTerm.kid_lt {t k:DTerm} (h:k∈t.kids):SizeOf.sizeOf k<SizeOf.sizeOf t:=by
 cases t with
 | mk a b c l=>
   have:k∈l:=h
   have:=List.sizeOf_lt_of_mem this
   simp only [DTerm.mk.sizeOf_spec];omega
theorem DTerm.ind {p:DTerm→Prop} (h:∀ t,(∀ k∈t.kids,p k)→p t) (t:DTerm):p t:=
  h t fun k hk=>DTerm.ind h k
termination_by SizeOf.sizeOf t
decreasing_by exact DTerm.kid_lt hk
mutual
def DTerm.beq:DTerm→DTerm→Bool
  | .mk a b c l,.mk a' b' c' l'=>decide (a=a')&&decide (b=b')&&decide (c=c')&&DTerm.beqL l l'
def DTerm.beqL:List DTerm→List DTerm→Bool
  | [],[]=>true
  | x :: l,y :: m=>DTerm.beq x y&&DTerm.beqL l m
  | _,_=>false
end
mutual
theorem DTerm.beq_iff:∀ (x y:DTerm),DTerm.beq x y=true↔x=y
  | .mk a b c l,.mk a' b' c' l'=>by
    simp only [DTerm.beq,Bool.and_eq_true,decide_eq_true_eq,DTerm.mk.injEq,DTerm.beqL_iff l l',and_assoc]
theorem DTerm.beqL_iff:∀ (x y:List DTerm),DTerm.beqL x y=true↔x=y
  | [],[]=>by simp [DTerm.beqL]
  | [],y :: m=>by simp [DTerm.beqL]
  | x :: l,[]=>by simp [DTerm.beqL]
  | x :: l,y :: m=>by simp only [DTerm.beqL,Bool.and_eq_true,DTerm.beq_iff x y,DTerm.beqL_iff l m,List.cons.injEq]
end
instance:DecidableEq DTerm:=fun x y=>decidable_of_iff _ (DTerm.beq_iff x y)
mutual
def zoA:DTerm→List Nat→World→List Value→Prop
  | .mk k n s ks,F,w,cs=>∃ a cap Fi xs,cs=[.int .i64 k,.int .i64 n,.string s,.slice a ks.length cap]∧I64 k∧I64 n∧s.size≤maxLen∧ks.length≤cap∧cap≤maxLen∧cellsT ks Fi w xs ∧
    ((ks=[]∧F=[])∨∃ b o,a=some ⟨b,o,none⟩∧F=b :: Fi∧w.rangeAt b o xs∧b<w.heap.size)
def cellsT:List DTerm→List Nat→World→List Value→Prop
  | [],F,_,xs=>F=[]∧xs=[]
  | y :: ys,F,w,xs=>∃ F1 F2 c1 c2,F=F1++F2∧xs=c1++c2∧zoA y F1 w c1∧cellsT ys F2 w c2
end
theorem zrX {t:DTerm} {F:List Nat} {w:World} {cs:List Value} (h:zoA t F w cs):cs.length=4:=by
 cases t;rw [zoA] at h;obtain ⟨a,cap,Fi,xs,rfl,_⟩:=h;rfl
theorem zrY {t:DTerm} {F:List Nat} {w:World} {cs:List Value} (h:zoA t F w cs):∀ v∈cs,v.oneCell'=true:=by
 cases t;rw [zoA] at h;obtain ⟨a,cap,Fi,xs,rfl,_⟩:=h
 intro v hv
 simp only [List.mem_cons,List.not_mem_nil,or_false] at hv
 rcases hv with rfl | rfl | rfl | rfl<;>rfl
mutual
theorem zla:∀ (t:DTerm) {F:List Nat} {w w':World} {cs:List Value},zoA t F w cs→(∀ b∈F,w'.heap[b]?=w.heap[b]?)→zoA t F w' cs
  | .mk k n s ks,F,w,w',cs,h,hk=>by
    rw [zoA] at h ⊢
    obtain ⟨a,cap,Fi,xs,hcs,i1,i2,i3,h1,h2,hc,h4⟩:=h
    rcases h4 with ⟨rfl,rfl⟩ | ⟨b,o,ha,hF,hr,hb⟩
    · exact ⟨a,cap,Fi,xs,hcs,i1,i2,i3,h1,h2,by rw [cellsT] at hc ⊢;exact hc,.inl ⟨rfl,rfl⟩⟩
    subst hF
    have hbb:=hk b (by simp)
    refine ⟨a,cap,Fi,xs,hcs,i1,i2,i3,h1,h2,zib ks hc fun c hc=>hk c (by simp [hc]),.inr ⟨b,o,ha,rfl,zcv hr hbb,?_⟩⟩
    rcases Nat.lt_or_ge b (Array.size (World.heap w')) with h' | h'
    · exact h'
    rw [Array.getElem?_eq_none h'] at hbb
    simp [Array.getElem?_eq_getElem hb] at hbb
theorem zib:∀ (l:List DTerm) {F:List Nat} {w w':World} {cs:List Value},cellsT l F w cs→(∀ b∈F,w'.heap[b]?=w.heap[b]?)→cellsT l F w' cs
  | [],F,w,w',cs,h,_=>by rw [cellsT] at h ⊢;exact h
  | y :: ys,F,w,w',cs,h,hk=>by
    rw [cellsT] at h ⊢
    obtain ⟨F1,F2,c1,c2,rfl,rfl,h1,h2⟩:=h
    exact ⟨F1,F2,c1,c2,rfl,rfl,zla y h1 fun b hb=>hk b (by simp [hb]),zib ys h2 fun b hb=>hk b (by simp [hb])⟩
end
mutual
theorem zpW:∀ (t:DTerm) {F:List Nat} {w:World} {cs:List Value},zoA t F w cs→∀ b∈F,b<w.heap.size
  | .mk k n s ks,F,w,cs,h,c,hm=>by
    rw [zoA] at h
    obtain ⟨a,cap,Fi,xs,hcs,i1,i2,i3,h1,h2,hc,h4⟩:=h
    rcases h4 with ⟨rfl,rfl⟩ | ⟨b,o,ha,hF,hr,hb⟩
    · cases hm
    subst hF
    rcases List.mem_cons.1 hm with rfl | hm
    · exact hb
    exact zlb ks hc c hm
theorem zlb:∀ (l:List DTerm) {F:List Nat} {w:World} {cs:List Value},cellsT l F w cs→∀ b∈F,b<w.heap.size
  | [],F,w,cs,h,c,hm=>by rw [cellsT] at h;rw [h.1] at hm;cases hm
  | y :: ys,F,w,cs,h,c,hm=>by
    rw [cellsT] at h
    obtain ⟨F1,F2,c1,c2,rfl,rfl,h1,h2⟩:=h
    rcases List.mem_append.1 hm with hm | hm
    · exact zpW y h1 c hm
    exact zlb ys h2 c hm
end
instance:Rep DTerm where
 size:=4
 agg:=true
 rep F w cs x:=zoA x F w cs
 pos:=by decide
 sz h:=by cases h
 len h:=zrX h
 one h:=zrY h
 keep h hk:=zla _ h hk
 lt h:=zpW _ h
theorem zgl {w:World}:∀ {l:List DTerm} {F:List Nat} {xs:List Value},cellsT l F w xs↔Cells F w xs l
 | [],F,xs=>by rw [cellsT];exact Iff.rfl
 | y :: ys,F,xs=>by
   rw [cellsT]
   constructor
   · rintro ⟨F1,F2,c1,c2,h1,h2,h3,h4⟩;exact ⟨F1,F2,c1,c2,h1,h2,h3,zgl.1 h4⟩
   rintro ⟨F1,F2,c1,c2,h1,h2,h3,h4⟩;exact ⟨F1,F2,c1,c2,h1,h2,h3,zgl.2 h4⟩
theorem zfS {w:World} {F:List Nat} {cs:List Value} {t:DTerm}:rep F w cs t↔rep F w cs t.tup:=by
 obtain ⟨k,n,s,ks⟩:=t
 show zoA _ F w cs↔_
 rw [zoA]
 constructor
 · rintro ⟨a,cap,Fi,xs,rfl,i1,i2,i3,h1,h2,hc,h4⟩
   refine ⟨[],F,[.int .i64 k],_,rfl,rfl,⟨rfl,rfl,i1⟩,[],F,[.int .i64 n],_,rfl,rfl,⟨rfl,rfl,i2⟩,[],F,[.string s],_,rfl,rfl,⟨rfl,rfl,i3⟩,a,cap,Fi,xs,rfl,h1,h2,zgl.1 hc,h4⟩
 rintro ⟨_,_,_,_,rfl,rfl,⟨rfl,rfl,i1⟩,_,_,_,_,rfl,rfl,⟨rfl,rfl,i2⟩,_,_,_,_,rfl,rfl,⟨rfl,rfl,i3⟩,a,cap,Fi,xs,rfl,h1,h2,hc,h4⟩
 exact ⟨a,cap,Fi,xs,rfl,i1,i2,i3,h1,h2,zgl.2 hc,h4⟩
theorem znD {w:World} {b o:Nat} {t:DTerm}:At w b o t↔At w b o t.tup:=
 ⟨fun ⟨F,cs,h,k⟩=>⟨F,cs,zfS.1 h,k⟩,fun ⟨F,cs,h,k⟩=>⟨F,cs,zfS.2 h,k⟩⟩
theorem zpX {w:World} {G:List Nat} {b o:Nat} {t:DTerm}:OAt G w b o t↔OAt G w b o t.tup:=
 ⟨fun ⟨cs,h,k⟩=>⟨cs,zfS.1 h,k⟩,fun ⟨cs,h,k⟩=>⟨cs,zfS.2 h,k⟩⟩
section
variable {w:World} {b o:Nat}
theorem zbG {x:DTerm} (h:At w b o x):At w b (o+0) x.kind:=zcF (α:=Int) (β:=Int×ByteArray×List DTerm) (p:=x.tup) (znD.1 h)
theorem zbz {x:DTerm} (h:At w b o x):At w b (o+1) x.num:=zcF (α:=Int) (β:=ByteArray×List DTerm) (p:=(x.num,x.name,x.kids)) (zbq (α:=Int) (β:=Int×ByteArray×List DTerm) (p:=x.tup) (znD.1 h))
theorem zbc {x:DTerm} (h:At w b o x):At w b (o+2) x.name:=zcF (α:=ByteArray) (β:=List DTerm) (p:=(x.name,x.kids)) (zbq (α:=Int) (β:=ByteArray×List DTerm) (p:=(x.num,x.name,x.kids)) (zbq (α:=Int) (β:=Int×ByteArray×List DTerm) (p:=x.tup) (znD.1 h)))
theorem zaN {x:DTerm} (h:At w b o x):At w b (o+3) x.kids:=zbq (α:=ByteArray) (β:=List DTerm) (p:=(x.name,x.kids)) (zbq (α:=Int) (β:=ByteArray×List DTerm) (p:=(x.num,x.name,x.kids)) (zbq (α:=Int) (β:=Int×ByteArray×List DTerm) (p:=x.tup) (znD.1 h)))
end
theorem Lens.term {w:World} {γ:Type} {H:List Nat→World→γ→Prop} {F:List Nat} {b o:Nat} {G:List Nat} {t:DTerm} {upd:DTerm→γ} (h:Lens H F w b o G t upd) :
   Lens H F w b o G t.tup (fun p=>upd (.mk p.1 p.2.1 p.2.2.1 p.2.2.2)):=
 ⟨zpX.1 h.here,h.sub,fun w' G' y' hc hO hs=>h.back w' G' _ hc (zpX.2 hO) hs⟩
instance:RepZ DTerm:=⟨.mk 0 0 ByteArray.empty [],RepZ.zc (Int×Int×ByteArray×List DTerm),fun w=>zfS.2 (RepZ.zr (α:=Int×Int×ByteArray×List DTerm) w)⟩
section
variable {γ:Type} {H:List Nat→World→γ→Prop} {F:List Nat} {w:World} {b o:Nat} {G:List Nat} {x:DTerm} {upd:DTerm→γ}
theorem zlc (h:Lens H F w b o G x upd):∃ G1,Lens H F w b (o+0) G1 x.kind (fun y=>upd (.mk y x.num x.name x.kids)):=by
 obtain ⟨G1,h1⟩:=h.term.fst;exact ⟨G1,h1⟩
theorem zld (h:Lens H F w b o G x upd):∃ G1,Lens H F w b (o+1) G1 x.num (fun y=>upd (.mk x.kind y x.name x.kids)):=by
 obtain ⟨G1,h1⟩:=h.term.snd;obtain ⟨G2,h2⟩:=h1.fst;exact ⟨G2,h2⟩
theorem zle (h:Lens H F w b o G x upd):∃ G1,Lens H F w b (o+2) G1 x.name (fun y=>upd (.mk x.kind x.num y x.kids)):=by
 obtain ⟨G1,h1⟩:=h.term.snd;obtain ⟨G2,h2⟩:=h1.snd;obtain ⟨G3,h3⟩:=h2.fst;exact ⟨G3,h3⟩
theorem zlf (h:Lens H F w b o G x upd):∃ G1,Lens H F w b (o+3) G1 x.kids (fun y=>upd (.mk x.kind x.num x.name y)):=by
 obtain ⟨G1,h1⟩:=h.term.snd;obtain ⟨G2,h2⟩:=h1.snd;obtain ⟨G3,h3⟩:=h2.snd;exact ⟨G3,h3⟩
end
theorem zpY {P:Program} {t:TypeId} {n:Nat} (h:zdC P t (Int×Int×ByteArray×List DTerm) n):zdC P t DTerm n:=by
 intro H enc w spare held cs y hh
 obtain ⟨F,x,hx⟩:=h H enc w spare held cs y hh
 exact ⟨F,.mk x.1 x.2.1 x.2.2.1 x.2.2.2,zfS.2 hx⟩
structure DIns where
 op:Int
 arg:Int
 term:DTerm
 to:Int
theorem DIns.ext_iff {x y:DIns}:x=y↔(x.op=y.op∧x.arg=y.arg∧x.term=y.term∧x.to=y.to):=⟨fun h=>by rw [h];exact ⟨rfl,rfl,rfl,rfl⟩,fun h=>by obtain ⟨h0,h1,h2,h3⟩:=h;cases x;cases y;simp only at h0 h1 h2 h3;simp only [h0,h1,h2,h3]⟩
instance:DecidableEq DIns:=fun x y=>decidable_of_iff (x.op=y.op∧x.arg=y.arg∧x.term=y.term∧x.to=y.to) DIns.ext_iff.symm
instance:Rep DIns:=Rep.via fun x=>(x.op,x.arg,x.term,x.to)
theorem zas {w:World} {b o:Nat} {x:DIns} (h:At w b o x):At w b (o+0) x.op:=zcF (α:=Int) (β:=Int×DTerm×Int) (p:=(x.op,x.arg,x.term,x.to)) h
theorem zav {w:World} {b o:Nat} {x:DIns} (h:At w b o x):At w b (o+1) x.arg:=zcF (α:=Int) (β:=DTerm×Int) (p:=(x.arg,x.term,x.to)) (zbq (α:=Int) (β:=Int×DTerm×Int) (p:=(x.op,x.arg,x.term,x.to)) h)
theorem zbu {w:World} {b o:Nat} {x:DIns} (h:At w b o x):At w b (o+2) x.term:=zcF (α:=DTerm) (β:=Int) (p:=(x.term,x.to)) (zbq (α:=Int) (β:=DTerm×Int) (p:=(x.arg,x.term,x.to)) (zbq (α:=Int) (β:=Int×DTerm×Int) (p:=(x.op,x.arg,x.term,x.to)) h))
theorem zbv {w:World} {b o:Nat} {x:DIns} (h:At w b o x):At w b (o+6) x.to:=zbq (α:=DTerm) (β:=Int) (p:=(x.term,x.to)) (zbq (α:=Int) (β:=DTerm×Int) (p:=(x.arg,x.term,x.to)) (zbq (α:=Int) (β:=Int×DTerm×Int) (p:=(x.op,x.arg,x.term,x.to)) h))
instance:RepZ DIns:=⟨⟨(RepZ.zv:Int),(RepZ.zv:Int),(RepZ.zv:DTerm),(RepZ.zv:Int)⟩,RepZ.zc (Int×Int×DTerm×Int),fun w=>RepZ.zr (α:=Int×Int×DTerm×Int) w⟩
theorem zmz {γ:Type} {H:List Nat→World→γ→Prop} {F:List Nat} {w:World} {b o:Nat} {G:List Nat} {x:DIns} {upd:DIns→γ} (h:Lens H F w b o G x upd) :
   ∃ G1,Lens H F w b (o+0) G1 x.op (fun y=>upd ⟨y,x.arg,x.term,x.to⟩):=by
 have h':Lens H F w b o G (x.op,x.arg,x.term,x.to) (fun p:Int×Int×DTerm×Int=>upd ⟨p.1,p.2.1,p.2.2.1,p.2.2.2⟩):=⟨h.here,h.sub,fun w' G' y' hc hO hs=>h.back w' G' _ hc hO hs⟩
 obtain ⟨G0,h'⟩:=h'.fst
 exact ⟨_,h'⟩
theorem zmA {γ:Type} {H:List Nat→World→γ→Prop} {F:List Nat} {w:World} {b o:Nat} {G:List Nat} {x:DIns} {upd:DIns→γ} (h:Lens H F w b o G x upd) :
   ∃ G1,Lens H F w b (o+1) G1 x.arg (fun y=>upd ⟨x.op,y,x.term,x.to⟩):=by
 have h':Lens H F w b o G (x.op,x.arg,x.term,x.to) (fun p:Int×Int×DTerm×Int=>upd ⟨p.1,p.2.1,p.2.2.1,p.2.2.2⟩):=⟨h.here,h.sub,fun w' G' y' hc hO hs=>h.back w' G' _ hc hO hs⟩
 obtain ⟨G0,h'⟩:=h'.snd
 obtain ⟨G1,h'⟩:=h'.fst
 exact ⟨_,h'⟩
theorem zmB {γ:Type} {H:List Nat→World→γ→Prop} {F:List Nat} {w:World} {b o:Nat} {G:List Nat} {x:DIns} {upd:DIns→γ} (h:Lens H F w b o G x upd) :
   ∃ G1,Lens H F w b (o+2) G1 x.term (fun y=>upd ⟨x.op,x.arg,y,x.to⟩):=by
 have h':Lens H F w b o G (x.op,x.arg,x.term,x.to) (fun p:Int×Int×DTerm×Int=>upd ⟨p.1,p.2.1,p.2.2.1,p.2.2.2⟩):=⟨h.here,h.sub,fun w' G' y' hc hO hs=>h.back w' G' _ hc hO hs⟩
 obtain ⟨G0,h'⟩:=h'.snd
 obtain ⟨G1,h'⟩:=h'.snd
 obtain ⟨G2,h'⟩:=h'.fst
 exact ⟨_,h'⟩
theorem zmC {γ:Type} {H:List Nat→World→γ→Prop} {F:List Nat} {w:World} {b o:Nat} {G:List Nat} {x:DIns} {upd:DIns→γ} (h:Lens H F w b o G x upd) :
   ∃ G1,Lens H F w b (o+6) G1 x.to (fun y=>upd ⟨x.op,x.arg,x.term,y⟩):=by
 have h':Lens H F w b o G (x.op,x.arg,x.term,x.to) (fun p:Int×Int×DTerm×Int=>upd ⟨p.1,p.2.1,p.2.2.1,p.2.2.2⟩):=⟨h.here,h.sub,fun w' G' y' hc hO hs=>h.back w' G' _ hc hO hs⟩
 obtain ⟨G0,h'⟩:=h'.snd
 obtain ⟨G1,h'⟩:=h'.snd
 obtain ⟨G2,h'⟩:=h'.snd
 exact ⟨_,h'⟩
structure DCode where
 globals:List ByteArray
 locks:List ByteArray
 procs:List ByteArray
 entry:List Int
 ins:List DIns
theorem DCode.ext_iff {x y:DCode}:x=y↔(x.globals=y.globals∧x.locks=y.locks∧x.procs=y.procs∧x.entry=y.entry∧x.ins=y.ins):=⟨fun h=>by rw [h];exact ⟨rfl,rfl,rfl,rfl,rfl⟩,fun h=>by obtain ⟨h0,h1,h2,h3,h4⟩:=h;cases x;cases y;simp only at h0 h1 h2 h3 h4;simp only [h0,h1,h2,h3,h4]⟩
instance:DecidableEq DCode:=fun x y=>decidable_of_iff (x.globals=y.globals∧x.locks=y.locks∧x.procs=y.procs∧x.entry=y.entry∧x.ins=y.ins) DCode.ext_iff.symm
instance:Rep DCode:=Rep.via fun x=>(x.globals,x.locks,x.procs,x.entry,x.ins)
theorem zaZ {w:World} {b o:Nat} {x:DCode} (h:At w b o x):At w b (o+0) x.globals:=zcF (α:=List ByteArray) (β:=(List ByteArray)×(List ByteArray)×(List Int)×(List DIns)) (p:=(x.globals,x.locks,x.procs,x.entry,x.ins)) h
theorem zaR {w:World} {b o:Nat} {x:DCode} (h:At w b o x):At w b (o+1) x.locks:=zcF (α:=List ByteArray) (β:=(List ByteArray)×(List Int)×(List DIns)) (p:=(x.locks,x.procs,x.entry,x.ins)) (zbq (α:=List ByteArray) (β:=(List ByteArray)×(List ByteArray)×(List Int)×(List DIns)) (p:=(x.globals,x.locks,x.procs,x.entry,x.ins)) h)
theorem zar {w:World} {b o:Nat} {x:DCode} (h:At w b o x):At w b (o+2) x.procs:=zcF (α:=List ByteArray) (β:=(List Int)×(List DIns)) (p:=(x.procs,x.entry,x.ins)) (zbq (α:=List ByteArray) (β:=(List ByteArray)×(List Int)×(List DIns)) (p:=(x.locks,x.procs,x.entry,x.ins)) (zbq (α:=List ByteArray) (β:=(List ByteArray)×(List ByteArray)×(List Int)×(List DIns)) (p:=(x.globals,x.locks,x.procs,x.entry,x.ins)) h))
theorem zap {w:World} {b o:Nat} {x:DCode} (h:At w b o x):At w b (o+3) x.entry:=zcF (α:=List Int) (β:=(List DIns)) (p:=(x.entry,x.ins)) (zbq (α:=List ByteArray) (β:=(List Int)×(List DIns)) (p:=(x.procs,x.entry,x.ins)) (zbq (α:=List ByteArray) (β:=(List ByteArray)×(List Int)×(List DIns)) (p:=(x.locks,x.procs,x.entry,x.ins)) (zbq (α:=List ByteArray) (β:=(List ByteArray)×(List ByteArray)×(List Int)×(List DIns)) (p:=(x.globals,x.locks,x.procs,x.entry,x.ins)) h)))
theorem zai {w:World} {b o:Nat} {x:DCode} (h:At w b o x):At w b (o+4) x.ins:=zbq (α:=List Int) (β:=(List DIns)) (p:=(x.entry,x.ins)) (zbq (α:=List ByteArray) (β:=(List Int)×(List DIns)) (p:=(x.procs,x.entry,x.ins)) (zbq (α:=List ByteArray) (β:=(List ByteArray)×(List Int)×(List DIns)) (p:=(x.locks,x.procs,x.entry,x.ins)) (zbq (α:=List ByteArray) (β:=(List ByteArray)×(List ByteArray)×(List Int)×(List DIns)) (p:=(x.globals,x.locks,x.procs,x.entry,x.ins)) h)))
instance:RepZ DCode:=⟨⟨(RepZ.zv:List ByteArray),(RepZ.zv:List ByteArray),(RepZ.zv:List ByteArray),(RepZ.zv:List Int),(RepZ.zv:List DIns)⟩,RepZ.zc ((List ByteArray)×(List ByteArray)×(List ByteArray)×(List Int)×(List DIns)),fun w=>RepZ.zr (α:=(List ByteArray)×(List ByteArray)×(List ByteArray)×(List Int)×(List DIns)) w⟩
theorem zlg {γ:Type} {H:List Nat→World→γ→Prop} {F:List Nat} {w:World} {b o:Nat} {G:List Nat} {x:DCode} {upd:DCode→γ} (h:Lens H F w b o G x upd) :
   ∃ G1,Lens H F w b (o+0) G1 x.globals (fun y=>upd ⟨y,x.locks,x.procs,x.entry,x.ins⟩):=by
 have h':Lens H F w b o G (x.globals,x.locks,x.procs,x.entry,x.ins) (fun p:(List ByteArray)×(List ByteArray)×(List ByteArray)×(List Int)×(List DIns)=>upd ⟨p.1,p.2.1,p.2.2.1,p.2.2.2.1,p.2.2.2.2⟩):=⟨h.here,h.sub,fun w' G' y' hc hO hs=>h.back w' G' _ hc hO hs⟩
 obtain ⟨G0,h'⟩:=h'.fst
 exact ⟨_,h'⟩
theorem zlh {γ:Type} {H:List Nat→World→γ→Prop} {F:List Nat} {w:World} {b o:Nat} {G:List Nat} {x:DCode} {upd:DCode→γ} (h:Lens H F w b o G x upd) :
   ∃ G1,Lens H F w b (o+1) G1 x.locks (fun y=>upd ⟨x.globals,y,x.procs,x.entry,x.ins⟩):=by
 have h':Lens H F w b o G (x.globals,x.locks,x.procs,x.entry,x.ins) (fun p:(List ByteArray)×(List ByteArray)×(List ByteArray)×(List Int)×(List DIns)=>upd ⟨p.1,p.2.1,p.2.2.1,p.2.2.2.1,p.2.2.2.2⟩):=⟨h.here,h.sub,fun w' G' y' hc hO hs=>h.back w' G' _ hc hO hs⟩
 obtain ⟨G0,h'⟩:=h'.snd
 obtain ⟨G1,h'⟩:=h'.fst
 exact ⟨_,h'⟩
theorem zli {γ:Type} {H:List Nat→World→γ→Prop} {F:List Nat} {w:World} {b o:Nat} {G:List Nat} {x:DCode} {upd:DCode→γ} (h:Lens H F w b o G x upd) :
   ∃ G1,Lens H F w b (o+2) G1 x.procs (fun y=>upd ⟨x.globals,x.locks,y,x.entry,x.ins⟩):=by
 have h':Lens H F w b o G (x.globals,x.locks,x.procs,x.entry,x.ins) (fun p:(List ByteArray)×(List ByteArray)×(List ByteArray)×(List Int)×(List DIns)=>upd ⟨p.1,p.2.1,p.2.2.1,p.2.2.2.1,p.2.2.2.2⟩):=⟨h.here,h.sub,fun w' G' y' hc hO hs=>h.back w' G' _ hc hO hs⟩
 obtain ⟨G0,h'⟩:=h'.snd
 obtain ⟨G1,h'⟩:=h'.snd
 obtain ⟨G2,h'⟩:=h'.fst
 exact ⟨_,h'⟩
theorem zlj {γ:Type} {H:List Nat→World→γ→Prop} {F:List Nat} {w:World} {b o:Nat} {G:List Nat} {x:DCode} {upd:DCode→γ} (h:Lens H F w b o G x upd) :
   ∃ G1,Lens H F w b (o+3) G1 x.entry (fun y=>upd ⟨x.globals,x.locks,x.procs,y,x.ins⟩):=by
 have h':Lens H F w b o G (x.globals,x.locks,x.procs,x.entry,x.ins) (fun p:(List ByteArray)×(List ByteArray)×(List ByteArray)×(List Int)×(List DIns)=>upd ⟨p.1,p.2.1,p.2.2.1,p.2.2.2.1,p.2.2.2.2⟩):=⟨h.here,h.sub,fun w' G' y' hc hO hs=>h.back w' G' _ hc hO hs⟩
 obtain ⟨G0,h'⟩:=h'.snd
 obtain ⟨G1,h'⟩:=h'.snd
 obtain ⟨G2,h'⟩:=h'.snd
 obtain ⟨G3,h'⟩:=h'.fst
 exact ⟨_,h'⟩
theorem zlk {γ:Type} {H:List Nat→World→γ→Prop} {F:List Nat} {w:World} {b o:Nat} {G:List Nat} {x:DCode} {upd:DCode→γ} (h:Lens H F w b o G x upd) :
   ∃ G1,Lens H F w b (o+4) G1 x.ins (fun y=>upd ⟨x.globals,x.locks,x.procs,x.entry,y⟩):=by
 have h':Lens H F w b o G (x.globals,x.locks,x.procs,x.entry,x.ins) (fun p:(List ByteArray)×(List ByteArray)×(List ByteArray)×(List Int)×(List DIns)=>upd ⟨p.1,p.2.1,p.2.2.1,p.2.2.2.1,p.2.2.2.2⟩):=⟨h.here,h.sub,fun w' G' y' hc hO hs=>h.back w' G' _ hc hO hs⟩
 obtain ⟨G0,h'⟩:=h'.snd
 obtain ⟨G1,h'⟩:=h'.snd
 obtain ⟨G2,h'⟩:=h'.snd
 obtain ⟨G3,h'⟩:=h'.snd
 exact ⟨_,h'⟩
theorem zll {w:World} {F:List Nat} {cs:List Value} {x:DCode} (h:rep F w cs x):∃ F0 c0 F1 c1 F2 c2 F3 c3 F4 c4,F=(F0++(F1++(F2++(F3++F4))))∧cs=(c0++(c1++(c2++(c3++c4))))∧rep F0 w c0 x.globals∧rep F1 w c1 x.locks∧rep F2 w c2 x.procs∧rep F3 w c3 x.entry∧rep F4 w c4 x.ins:=by
 obtain ⟨F0,G0,c0,d0,rfl,rfl,h0,h⟩:=h
 obtain ⟨F1,G1,c1,d1,rfl,rfl,h1,h⟩:=h
 obtain ⟨F2,G2,c2,d2,rfl,rfl,h2,h⟩:=h
 obtain ⟨F3,G3,c3,d3,rfl,rfl,h3,h⟩:=h
 exact ⟨_,_,_,_,_,_,_,_,_,_,rfl,rfl,h0,h1,h2,h3,h⟩
structure DTouch where
 at_:Int
 global:Int
 write:Bool
 held:Int
theorem DTouch.ext_iff {x y:DTouch}:x=y↔(x.at_=y.at_∧x.global=y.global∧x.write=y.write∧x.held=y.held):=⟨fun h=>by rw [h];exact ⟨rfl,rfl,rfl,rfl⟩,fun h=>by obtain ⟨h0,h1,h2,h3⟩:=h;cases x;cases y;simp only at h0 h1 h2 h3;simp only [h0,h1,h2,h3]⟩
instance:DecidableEq DTouch:=fun x y=>decidable_of_iff (x.at_=y.at_∧x.global=y.global∧x.write=y.write∧x.held=y.held) DTouch.ext_iff.symm
instance:Rep DTouch:=Rep.via fun x=>(x.at_,x.global,x.write,x.held)
theorem zbL {w:World} {b o:Nat} {x:DTouch} (h:At w b o x):At w b (o+0) x.at_:=zcF (α:=Int) (β:=Int×Bool×Int) (p:=(x.at_,x.global,x.write,x.held)) h
theorem zcT {w:World} {b o:Nat} {x:DTouch} (h:At w b o x):At w b (o+1) x.global:=zcF (α:=Int) (β:=Bool×Int) (p:=(x.global,x.write,x.held)) (zbq (α:=Int) (β:=Int×Bool×Int) (p:=(x.at_,x.global,x.write,x.held)) h)
theorem zey {w:World} {b o:Nat} {x:DTouch} (h:At w b o x):At w b (o+2) x.write:=zcF (α:=Bool) (β:=Int) (p:=(x.write,x.held)) (zbq (α:=Int) (β:=Bool×Int) (p:=(x.global,x.write,x.held)) (zbq (α:=Int) (β:=Int×Bool×Int) (p:=(x.at_,x.global,x.write,x.held)) h))
theorem zcU {w:World} {b o:Nat} {x:DTouch} (h:At w b o x):At w b (o+3) x.held:=zbq (α:=Bool) (β:=Int) (p:=(x.write,x.held)) (zbq (α:=Int) (β:=Bool×Int) (p:=(x.global,x.write,x.held)) (zbq (α:=Int) (β:=Int×Bool×Int) (p:=(x.at_,x.global,x.write,x.held)) h))
instance:RepZ DTouch:=⟨⟨(RepZ.zv:Int),(RepZ.zv:Int),(RepZ.zv:Bool),(RepZ.zv:Int)⟩,RepZ.zc (Int×Int×Bool×Int),fun w=>RepZ.zr (α:=Int×Int×Bool×Int) w⟩
theorem zpZ {w:World} {x:DTouch} (h_at_:I64 x.at_) (h_global:I64 x.global)  (h_held:I64 x.held):Mine [] w (.agg #[.int .i64 x.at_,.int .i64 x.global,.bool x.write,.int .i64 x.held]) x:=⟨⟨[.int .i64 x.at_,.int .i64 x.global,.bool x.write,.int .i64 x.held],⟨[],[],[.int .i64 x.at_],[.int .i64 x.global,.bool x.write,.int .i64 x.held],rfl,rfl,⟨rfl,rfl,h_at_⟩,⟨[],[],[.int .i64 x.global],[.bool x.write,.int .i64 x.held],rfl,rfl,⟨rfl,rfl,h_global⟩,⟨[],[],[.bool x.write],[.int .i64 x.held],rfl,rfl,⟨rfl,rfl⟩,⟨rfl,rfl,h_held⟩⟩⟩⟩,rfl⟩,List.nodup_nil,Wr.nil w⟩
instance:Flat DTouch:=⟨fun h=>Flat.flat (α:=Int×Int×Bool×Int) h⟩
end Go.Sh
namespace Go.Proofs.YtbnjpfjjmhodnaaGreatDoor
open Go Go.Sh Go.Proofs
open Rep (rep)
def zkR (b:UInt8):Bool:=decide ((97:Int)≤(b.toNat:Int)∧(b.toNat:Int)≤122)
def zoB (b:UInt8):Bool:=decide ((48:Int)≤(b.toNat:Int)∧(b.toNat:Int)≤57)
def zht (s:ByteArray):Bool:=decide (s.size≤12)&&(bts s).head?.any zkR&&(bts s).all (fun b=>zkR b || zoB b)
def kw:List ByteArray:=[.mk #[97,110,100],.mk #[99,97,108,108],.mk #[101,108,115,101],.mk #[103,108,111,98,97,108,115],.mk #[105,102],.mk #[108,111,99,107],.mk #[108,111,99,107,115],
 .mk #[110,111,116],.mk #[112,114,111,99],.mk #[115,107,105,112],.mk #[115,112,97,119,110],.mk #[117,110,108,111,99,107],.mk #[119,104,105,108,101]]
def zbx (s:ByteArray):Bool:=zht s&&!decide (s∈kw)
def F214 (a0:Value) (w:World) (R:VW):Prop:=
 rB .geq 5 T0 U0 a0 (Value.int .u8 97) w fun x4=>
 BR x4
 (rB .leq 5 T0 U0 a0 (Value.int .u8 122) w fun x7=>
 R x7 w)
 (R (Value.bool false) w)
def cfg214:Cfg:=⟨extL,[],[],[],[],[],[]⟩
theorem F214_call {a0:Value} {w:World} {R:VW} (h:F214 a0 w R):cL 214 [a0] w R:=co (g:=cfg214) Tryz.func214 (by kernel_rfl) (by kernel_rfl) (by kernel_rfl) h
theorem zjq {w:World} {n:Nat}    :
   CALL Tryz.prog 214 [.int .u8 (n:Int)] w fun r w'=>Ext w w'∧(r=.bool (decide ((97:Int)≤(n:Int)∧(n:Int)≤122))):=by
 refine F214_call ?_
 unfold F214
 refine zb9 ?_
 refine br (fun c1=>?_) (fun c1=>?_)
 · refine zdw ?_
   refine ⟨Ext.refl w,?_⟩
   simp [c1]
 refine ⟨Ext.refl w,?_⟩
 simp [c1]
def F215 (a0:Value) (w:World) (R:VW):Prop:=
 rB .geq 5 T0 U0 a0 (Value.int .u8 48) w fun x4=>
 BR x4
 (rB .leq 5 T0 U0 a0 (Value.int .u8 57) w fun x7=>
 R x7 w)
 (R (Value.bool false) w)
def cfg215:Cfg:=⟨extL,[],[],[],[],[],[]⟩
theorem F215_call {a0:Value} {w:World} {R:VW} (h:F215 a0 w R):cL 215 [a0] w R:=co (g:=cfg215) Tryz.func215 (by kernel_rfl) (by kernel_rfl) (by kernel_rfl) h
theorem zmD {w:World} {n:Nat}    :
   CALL Tryz.prog 215 [.int .u8 (n:Int)] w fun r w'=>Ext w w'∧(r=.bool (decide ((48:Int)≤(n:Int)∧(n:Int)≤57))):=by
 refine F215_call ?_
 unfold F215
 refine zb9 ?_
 refine br (fun c1=>?_) (fun c1=>?_)
 · refine zdw ?_
   refine ⟨Ext.refl w,?_⟩
   simp [c1]
 refine ⟨Ext.refl w,?_⟩
 simp [c1]
def F211 (a0:Value) (w:World) (R:VW):Prop:=
 rB .geq 5 T0 U0 a0 (Value.int .u8 97) w fun x4=>
 BR x4
 (rB .leq 5 T0 U0 a0 (Value.int .u8 122) w fun x7=>
 R x7 w)
 (R (Value.bool false) w)
def cfg211:Cfg:=⟨extL,[],[],[],[],[],[]⟩
theorem F211_call {a0:Value} {w:World} {R:VW} (h:F211 a0 w R):cL 211 [a0] w R:=co (g:=cfg211) Tryz.func211 (by kernel_rfl) (by kernel_rfl) (by kernel_rfl) h
theorem zhk {w:World} {n:Nat}    :
   CALL Tryz.prog 211 [.int .u8 (n:Int)] w fun r w'=>Ext w w'∧(r=.bool (decide ((97:Int)≤(n:Int)∧(n:Int)≤122))):=by
 refine F211_call ?_
 unfold F211
 refine zb9 ?_
 refine br (fun c1=>?_) (fun c1=>?_)
 · refine zdw ?_
   refine ⟨Ext.refl w,?_⟩
   simp [c1]
 refine ⟨Ext.refl w,?_⟩
 simp [c1]
def F212 (a0:Value) (w:World) (R:VW):Prop:=
 rB .geq 5 T0 U0 a0 (Value.int .u8 48) w fun x4=>
 BR x4
 (rB .leq 5 T0 U0 a0 (Value.int .u8 57) w fun x7=>
 R x7 w)
 (R (Value.bool false) w)
def cfg212:Cfg:=⟨extL,[],[],[],[],[],[]⟩
theorem F212_call {a0:Value} {w:World} {R:VW} (h:F212 a0 w R):cL 212 [a0] w R:=co (g:=cfg212) Tryz.func212 (by kernel_rfl) (by kernel_rfl) (by kernel_rfl) h
theorem zlm {w:World} {n:Nat}    :
   CALL Tryz.prog 212 [.int .u8 (n:Int)] w fun r w'=>Ext w w'∧(r=.bool (decide ((48:Int)≤(n:Int)∧(n:Int)≤57))):=by
 refine F212_call ?_
 unfold F212
 refine zb9 ?_
 refine br (fun c1=>?_) (fun c1=>?_)
 · refine zdw ?_
   refine ⟨Ext.refl w,?_⟩
   simp [c1]
 refine ⟨Ext.refl w,?_⟩
 simp [c1]
theorem znE {s:ByteArray} (h:0<s.size):(bts s).head?=some ((bts s)[0]'(by rw [za5];exact h)):=by
 rw [List.head?_eq_getElem?,List.getElem?_eq_getElem (by rw [za5];exact h)]
theorem zjr {s:ByteArray} (h:s.size=0):zht s=false:=by
 have:bts s=[]:=List.eq_nil_of_length_eq_zero (by rw [za5];exact h)
 simp [zht,this]
theorem zic {s:ByteArray} (h:12<s.size):zht s=false:=by
 simp [zht,Nat.not_le.2 h]
theorem zln {s:ByteArray} (h:0<s.size) (c:¬((97:Int)≤(((bts s)[0]'(by rw [za5];exact h)).toNat:Int)∧(((bts s)[0]'(by rw [za5];exact h)).toNat:Int)≤122)):zht s=false:=by
 have:zkR ((bts s)[0]'(by rw [za5];exact h))=false:=by simp only [zkR,c,decide_false]
 simp [zht,znE h,this]
theorem zp0 {s:ByteArray} {k:Nat} (h:k<s.size) (c1:¬((97:Int)≤(((bts s)[k]'(by rw [za5];exact h)).toNat:Int)∧(((bts s)[k]'(by rw [za5];exact h)).toNat:Int)≤122))
   (c2:¬((48:Int)≤(((bts s)[k]'(by rw [za5];exact h)).toNat:Int)∧(((bts s)[k]'(by rw [za5];exact h)).toNat:Int)≤57)):zht s=false:=by
 have h1:zkR ((bts s)[k]'(by rw [za5];exact h))=false:=by simp only [zkR,c1,decide_false]
 have h2:zoB ((bts s)[k]'(by rw [za5];exact h))=false:=by simp only [zoB,c2,decide_false]
 have:(bts s).all (fun b=>zkR b || zoB b)=false:=by
   rw [List.all_eq_false]
   exact ⟨_,List.getElem_mem (by rw [za5];exact h),by simp [h1,h2]⟩
 simp [zht,this]
theorem zgm {s:ByteArray} {k:Nat} (h:k<s.size) (hi:∀ b∈(bts s).take k,(zkR b || zoB b)=true) (c:zkR ((bts s)[k]'(by rw [za5];exact h))=true∨zoB ((bts s)[k]'(by rw [za5];exact h))=true) :
   ∀ b∈(bts s).take (k+1),(zkR b || zoB b)=true:=by
 rw [List.take_succ_eq_append_getElem (by rw [za5];exact h)]
 intro b hb
 rcases List.mem_append.1 hb with hb | hb
 · exact hi b hb
 simp only [List.mem_cons,List.not_mem_nil,or_false] at hb
 subst hb
 simpa using c
theorem znF {s:ByteArray} {k:Nat} (h0:0<s.size) (h1:s.size≤12) (c:(97:Int)≤(((bts s)[0]'(by rw [za5];exact h0)).toNat:Int)∧(((bts s)[0]'(by rw [za5];exact h0)).toNat:Int)≤122) (hk:s.size≤k)
   (hi:∀ b∈(bts s).take k,(zkR b || zoB b)=true):zht s=true:=by
 rw [List.take_of_length_le (by rw [za5];exact hk)] at hi
 have e1:zkR ((bts s)[0]'(by rw [za5];exact h0))=true:=by simp only [zkR,c,and_self,decide_true]
 have e2:(bts s).all (fun b=>zkR b || zoB b)=true:=List.all_eq_true.2 hi
 simp [zht,znE h0,e1,e2,h1]
def F170 (a0:Value) (w:World) (R:VW):Prop:=
 rN 9 3 a0 w fun x5=>
 rB .eql 3 T0 U0 x5 (iV 0) w fun x6=>
 BR x6
 (R (Value.bool false) w)
 (rN 9 3 a0 w fun x9=>
 rB .gtr 3 T0 U0 x9 (iV 12) w fun x10=>
 BR x10
 (R (Value.bool false) w)
 (rD (Instr.index 9 a0 (iV 0)) w fun x14=>
 cL 211 [x14] w fun x15 w=>
 rD (Op.unary .not x15) w fun x16=>
 BR x16
 (R (Value.bool false) w)
 (LOOPI [3] [(iV 0)] w fun u4 w next4=>
 rN 9 3 a0 w fun x20=>
 rC (u4 3) x20 w fun x21=>
 BR x21
 (rD (Instr.index 9 a0 (u4 3)) w fun x26=>
 cL 211 [x26] w fun x27 w=>
 rD (Op.unary .not x27) w fun x28=>
 BR x28
 (rD (Instr.index 9 a0 (u4 3)) w fun x32=>
 cL 212 [x32] w fun x33 w=>
 rD (Op.unary .not x33) w fun x34=>
 BR x34
 (R (Value.bool false) w)
 (rA (u4 3) (iV 1) w fun x23=>
 next4 [x23] w))
 (rA (u4 3) (iV 1) w fun x23=>
 next4 [x23] w))
 (R (Value.bool true) w))))
def cfg170:Cfg:=⟨extL,[],[(4,68719214604,[3])],[],[],[],[]⟩
theorem F170_call {a0:Value} {w:World} {R:VW} (h:F170 a0 w R):cL 170 [a0] w R:=co (g:=cfg170) Tryz.func170 (by kernel_rfl) (by kernel_rfl) (by kernel_rfl) h
theorem zoC {w:World} {s:ByteArray}    :
   CALL Tryz.prog 170 [.string s] w fun r w'=>Ext w w'∧(r=.bool (zht s)):=by
 refine F170_call ?_
 unfold F170
 refine zeu u9 ?_
 refine zao ?_
 refine br (fun c1=>?_) (fun c1=>?_)
 · refine ⟨Ext.refl w,?_⟩
   rw [zjr (by omega)]
 refine zeu u9 ?_
 refine zcQ ?_
 refine br (fun c2=>?_) (fun c2=>?_)
 · refine ⟨Ext.refl w,?_⟩
   rw [zic (by omega)]
 refine zd7 (i:=0) u9 (by omega) ?_
 refine (zhk ).mono ?_
 rintro _ w1_ ⟨hx1_,rfl⟩
 refine zaz ?_
 refine br (fun c3=>?_) (fun c3=>?_)
 · refine ⟨hx1_,?_⟩
   rw [zln (by omega) c3]
 refine zaq (s.size) (fun k us w'=>us=[.int .i64 (k:Int)]∧Ext w1_ w'∧(∀ b∈(bts s).take k,(zkR b || zoB b)=true)) (0) (by omega) ⟨by simp,Ext.refl w1_,by simp⟩ ?_
 rintro k m4 uu4 w2_ hk4 ⟨hu,hx2_,hinv⟩
 simp only [List.map_cons,List.map_nil,List.cons.injEq,and_true] at hu
 try rw [hu]
 try clear hu
 refine zeu u9 ?_
 refine zah ?_
 refine br (fun c4=>?_) (fun c4=>?_)
 · refine zd7 u9 (by omega) ?_
   refine (zhk ).mono ?_
   rintro _ w3_ ⟨hx3_,rfl⟩
   refine zaz ?_
   refine br (fun c5=>?_) (fun c5=>?_)
   · refine zd7 u9 (by omega) ?_
     refine (zlm ).mono ?_
     rintro _ w4_ ⟨hx4_,rfl⟩
     refine zaz ?_
     refine br (fun c6=>?_) (fun c6=>?_)
     · refine ⟨(hx1_.trans (hx2_.trans (hx3_.trans hx4_))),?_⟩
       rw [zp0 (by omega) c5 c6]
     refine zaf (by omega) ?_
     refine ⟨m4-1,by omega,k+1,by omega,by simp,(hx2_.trans (hx3_.trans hx4_)),?_⟩
     exact zgm (by omega) hinv (.inr (by simp only [zoB,Decidable.not_not.1 c6,and_self,decide_true]))
   refine zaf (by omega) ?_
   refine ⟨m4-1,by omega,k+1,by omega,by simp,(hx2_.trans hx3_),?_⟩
   exact zgm (by omega) hinv (.inl (by simp only [zkR,Decidable.not_not.1 c5,and_self,decide_true]))
 refine ⟨(hx1_.trans hx2_),?_⟩
 rw [znF (by omega) (by omega) (Decidable.not_not.1 c3) (by omega) hinv]
def F117 (a0:Value) (w:World) (R:VW):Prop:=
 rB .eql 9 T0 U0 a0 (Value.string (ByteArray.mk #[97,110,100])) w fun x5=>
 BR x5
 (R (Value.bool false) w)
 (rB .eql 9 T0 U0 a0 (Value.string (ByteArray.mk #[99,97,108,108])) w fun x6=>
 BR x6
 (R (Value.bool false) w)
 (rB .eql 9 T0 U0 a0 (Value.string (ByteArray.mk #[101,108,115,101])) w fun x7=>
 BR x7
 (R (Value.bool false) w)
 (rB .eql 9 T0 U0 a0 (Value.string (ByteArray.mk #[103,108,111,98,97,108,115])) w fun x8=>
 BR x8
 (R (Value.bool false) w)
 (rB .eql 9 T0 U0 a0 (Value.string (ByteArray.mk #[105,102])) w fun x9=>
 BR x9
 (R (Value.bool false) w)
 (rB .eql 9 T0 U0 a0 (Value.string (ByteArray.mk #[108,111,99,107])) w fun x10=>
 BR x10
 (R (Value.bool false) w)
 (rB .eql 9 T0 U0 a0 (Value.string (ByteArray.mk #[108,111,99,107,115])) w fun x11=>
 BR x11
 (R (Value.bool false) w)
 (rB .eql 9 T0 U0 a0 (Value.string (ByteArray.mk #[110,111,116])) w fun x12=>
 BR x12
 (R (Value.bool false) w)
 (rB .eql 9 T0 U0 a0 (Value.string (ByteArray.mk #[112,114,111,99])) w fun x13=>
 BR x13
 (R (Value.bool false) w)
 (rB .eql 9 T0 U0 a0 (Value.string (ByteArray.mk #[115,107,105,112])) w fun x14=>
 BR x14
 (R (Value.bool false) w)
 (rB .eql 9 T0 U0 a0 (Value.string (ByteArray.mk #[115,112,97,119,110])) w fun x15=>
 BR x15
 (R (Value.bool false) w)
 (rB .eql 9 T0 U0 a0 (Value.string (ByteArray.mk #[117,110,108,111,99,107])) w fun x16=>
 BR x16
 (R (Value.bool false) w)
 (rB .eql 9 T0 U0 a0 (Value.string (ByteArray.mk #[119,104,105,108,101])) w fun x17=>
 BR x17
 (R (Value.bool false) w)
 (cL 170 [a0] w fun x19 w=>
 R x19 w)))))))))))))
def cfg117:Cfg:=⟨extL,[],[],[],[],[],[]⟩
theorem F117_call {a0:Value} {w:World} {R:VW} (h:F117 a0 w R):cL 117 [a0] w R:=co (g:=cfg117) Tryz.func117 (by kernel_rfl) (by kernel_rfl) (by kernel_rfl) h
theorem zgn {w:World} {s:ByteArray}    :
   CALL Tryz.prog 117 [.string s] w fun r w'=>Ext w w'∧(r=.bool (zbx s)):=by
 refine F117_call ?_
 unfold F117
 refine za4 ?_
 refine br (fun c1=>?_) (fun c1=>?_)
 · refine ⟨Ext.refl w,?_⟩
   have hm:s∈kw:=by simp [kw, *]
   simp [zbx,hm]
 refine za4 ?_
 refine br (fun c2=>?_) (fun c2=>?_)
 · refine ⟨Ext.refl w,?_⟩
   have hm:s∈kw:=by simp [kw, *]
   simp [zbx,hm]
 refine za4 ?_
 refine br (fun c3=>?_) (fun c3=>?_)
 · refine ⟨Ext.refl w,?_⟩
   have hm:s∈kw:=by simp [kw, *]
   simp [zbx,hm]
 refine za4 ?_
 refine br (fun c4=>?_) (fun c4=>?_)
 · refine ⟨Ext.refl w,?_⟩
   have hm:s∈kw:=by simp [kw, *]
   simp [zbx,hm]
 refine za4 ?_
 refine br (fun c5=>?_) (fun c5=>?_)
 · refine ⟨Ext.refl w,?_⟩
   have hm:s∈kw:=by simp [kw, *]
   simp [zbx,hm]
 refine za4 ?_
 refine br (fun c6=>?_) (fun c6=>?_)
 · refine ⟨Ext.refl w,?_⟩
   have hm:s∈kw:=by simp [kw, *]
   simp [zbx,hm]
 refine za4 ?_
 refine br (fun c7=>?_) (fun c7=>?_)
 · refine ⟨Ext.refl w,?_⟩
   have hm:s∈kw:=by simp [kw, *]
   simp [zbx,hm]
 refine za4 ?_
 refine br (fun c8=>?_) (fun c8=>?_)
 · refine ⟨Ext.refl w,?_⟩
   have hm:s∈kw:=by simp [kw, *]
   simp [zbx,hm]
 refine za4 ?_
 refine br (fun c9=>?_) (fun c9=>?_)
 · refine ⟨Ext.refl w,?_⟩
   have hm:s∈kw:=by simp [kw, *]
   simp [zbx,hm]
 refine za4 ?_
 refine br (fun c10=>?_) (fun c10=>?_)
 · refine ⟨Ext.refl w,?_⟩
   have hm:s∈kw:=by simp [kw, *]
   simp [zbx,hm]
 refine za4 ?_
 refine br (fun c11=>?_) (fun c11=>?_)
 · refine ⟨Ext.refl w,?_⟩
   have hm:s∈kw:=by simp [kw, *]
   simp [zbx,hm]
 refine za4 ?_
 refine br (fun c12=>?_) (fun c12=>?_)
 · refine ⟨Ext.refl w,?_⟩
   have hm:s∈kw:=by simp [kw, *]
   simp [zbx,hm]
 refine za4 ?_
 refine br (fun c13=>?_) (fun c13=>?_)
 · refine ⟨Ext.refl w,?_⟩
   have hm:s∈kw:=by simp [kw, *]
   simp [zbx,hm]
 refine (zoC ).mono ?_
 rintro _ w1_ ⟨hx1_,rfl⟩
 refine ⟨hx1_,?_⟩
 have hm:s∉kw:=by simp [kw, *]
 simp [zbx,hm]
def F176 (a0:Value) (w:World) (R:VW):Prop:=
 rN 9 3 a0 w fun x5=>
 rB .lss 3 T0 U0 x5 (iV 1) w fun x6=>
 BR x6
 (R (Value.bool false) w)
 (rN 9 3 a0 w fun x9=>
 rB .gtr 3 T0 U0 x9 (iV 12) w fun x10=>
 BR x10
 (R (Value.bool false) w)
 (rD (Instr.index 9 a0 (iV 0)) w fun x14=>
 cL 214 [x14] w fun x15 w=>
 rD (Op.unary .not x15) w fun x16=>
 BR x16
 (R (Value.bool false) w)
 (LOOPI [3] [(iV 0)] w fun u4 w next4=>
 rN 9 3 a0 w fun x20=>
 rC (u4 3) x20 w fun x21=>
 BR x21
 (rD (Instr.index 9 a0 (u4 3)) w fun x26=>
 cL 214 [x26] w fun x27 w=>
 rD (Op.unary .not x27) w fun x28=>
 BR x28
 (rD (Instr.index 9 a0 (u4 3)) w fun x32=>
 cL 215 [x32] w fun x33 w=>
 rD (Op.unary .not x33) w fun x34=>
 BR x34
 (R (Value.bool false) w)
 (rA (u4 3) (iV 1) w fun x23=>
 next4 [x23] w))
 (rA (u4 3) (iV 1) w fun x23=>
 next4 [x23] w))
 (rB .eql 9 T0 U0 a0 (Value.string (ByteArray.mk #[97,110,100])) w fun x38=>
 BR x38
 (R (Value.bool false) w)
 (rB .eql 9 T0 U0 a0 (Value.string (ByteArray.mk #[99,97,108,108])) w fun x39=>
 BR x39
 (R (Value.bool false) w)
 (rB .eql 9 T0 U0 a0 (Value.string (ByteArray.mk #[101,108,115,101])) w fun x40=>
 BR x40
 (R (Value.bool false) w)
 (rB .eql 9 T0 U0 a0 (Value.string (ByteArray.mk #[103,108,111,98,97,108,115])) w fun x41=>
 BR x41
 (R (Value.bool false) w)
 (rB .eql 9 T0 U0 a0 (Value.string (ByteArray.mk #[105,102])) w fun x42=>
 BR x42
 (R (Value.bool false) w)
 (rB .eql 9 T0 U0 a0 (Value.string (ByteArray.mk #[108,111,99,107])) w fun x43=>
 BR x43
 (R (Value.bool false) w)
 (rB .eql 9 T0 U0 a0 (Value.string (ByteArray.mk #[108,111,99,107,115])) w fun x44=>
 BR x44
 (R (Value.bool false) w)
 (rB .eql 9 T0 U0 a0 (Value.string (ByteArray.mk #[110,111,116])) w fun x45=>
 BR x45
 (R (Value.bool false) w)
 (rB .eql 9 T0 U0 a0 (Value.string (ByteArray.mk #[112,114,111,99])) w fun x46=>
 BR x46
 (R (Value.bool false) w)
 (rB .eql 9 T0 U0 a0 (Value.string (ByteArray.mk #[115,107,105,112])) w fun x47=>
 BR x47
 (R (Value.bool false) w)
 (rB .eql 9 T0 U0 a0 (Value.string (ByteArray.mk #[115,112,97,119,110])) w fun x48=>
 BR x48
 (R (Value.bool false) w)
 (rB .eql 9 T0 U0 a0 (Value.string (ByteArray.mk #[117,110,108,111,99,107])) w fun x49=>
 BR x49
 (R (Value.bool false) w)
 (rB .eql 9 T0 U0 a0 (Value.string (ByteArray.mk #[119,104,105,108,101])) w fun x50=>
 BR x50
 (R (Value.bool false) w)
 (R (Value.bool true) w)))))))))))))))))
def cfg176:Cfg:=⟨extL,[],[(4,68719214604,[3])],[],[],[],[]⟩
theorem F176_call {a0:Value} {w:World} {R:VW} (h:F176 a0 w R):cL 176 [a0] w R:=co (g:=cfg176) Tryz.func176 (by kernel_rfl) (by kernel_rfl) (by kernel_rfl) h
theorem zgo {w:World} {s:ByteArray}    :
   CALL Tryz.prog 176 [.string s] w fun r w'=>Ext w w'∧(r=.bool (zbx s)):=by
 refine F176_call ?_
 unfold F176
 refine zeu u9 ?_
 refine zah ?_
 refine br (fun c1=>?_) (fun c1=>?_)
 · refine ⟨Ext.refl w,?_⟩
   simp [zbx,zjr (s:=s) (by omega)]
 refine zeu u9 ?_
 refine zcQ ?_
 refine br (fun c2=>?_) (fun c2=>?_)
 · refine ⟨Ext.refl w,?_⟩
   simp [zbx,zic (s:=s) (by omega)]
 refine zd7 (i:=0) u9 (by omega) ?_
 refine (zjq ).mono ?_
 rintro _ w1_ ⟨hx1_,rfl⟩
 refine zaz ?_
 refine br (fun c3=>?_) (fun c3=>?_)
 · refine ⟨hx1_,?_⟩
   simp [zbx,zln (s:=s) (by omega) c3]
 refine zaq (s.size) (fun k us w'=>us=[.int .i64 (k:Int)]∧Ext w1_ w'∧(∀ b∈(bts s).take k,(zkR b || zoB b)=true)) (0) (by omega) ⟨by simp,Ext.refl w1_,by simp⟩ ?_
 rintro k m4 uu4 w2_ hk4 ⟨hu,hx2_,hinv⟩
 simp only [List.map_cons,List.map_nil,List.cons.injEq,and_true] at hu
 try rw [hu]
 try clear hu
 refine zeu u9 ?_
 refine zah ?_
 refine br (fun c4=>?_) (fun c4=>?_)
 · refine zd7 u9 (by omega) ?_
   refine (zjq ).mono ?_
   rintro _ w3_ ⟨hx3_,rfl⟩
   refine zaz ?_
   refine br (fun c5=>?_) (fun c5=>?_)
   · refine zd7 u9 (by omega) ?_
     refine (zmD ).mono ?_
     rintro _ w4_ ⟨hx4_,rfl⟩
     refine zaz ?_
     refine br (fun c6=>?_) (fun c6=>?_)
     · refine ⟨(hx1_.trans (hx2_.trans (hx3_.trans hx4_))),?_⟩
       simp [zbx,zp0 (s:=s) (by omega) c5 c6]
     refine zaf (by omega) ?_
     refine ⟨m4-1,by omega,k+1,by omega,by simp,(hx2_.trans (hx3_.trans hx4_)),?_⟩
     exact zgm (by omega) hinv (.inr (by simp only [zoB,Decidable.not_not.1 c6,and_self,decide_true]))
   refine zaf (by omega) ?_
   refine ⟨m4-1,by omega,k+1,by omega,by simp,(hx2_.trans hx3_),?_⟩
   exact zgm (by omega) hinv (.inl (by simp only [zkR,Decidable.not_not.1 c5,and_self,decide_true]))
 refine za4 ?_
 refine br (fun c7=>?_) (fun c7=>?_)
 · refine ⟨(hx1_.trans hx2_),?_⟩
   have hm:s∈kw:=by simp only [kw,List.mem_cons, *,true_or,or_true]
   simp [zbx,hm]
 refine za4 ?_
 refine br (fun c8=>?_) (fun c8=>?_)
 · refine ⟨(hx1_.trans hx2_),?_⟩
   have hm:s∈kw:=by simp only [kw,List.mem_cons, *,true_or,or_true]
   simp [zbx,hm]
 refine za4 ?_
 refine br (fun c9=>?_) (fun c9=>?_)
 · refine ⟨(hx1_.trans hx2_),?_⟩
   have hm:s∈kw:=by simp only [kw,List.mem_cons, *,true_or,or_true]
   simp [zbx,hm]
 refine za4 ?_
 refine br (fun c10=>?_) (fun c10=>?_)
 · refine ⟨(hx1_.trans hx2_),?_⟩
   have hm:s∈kw:=by simp only [kw,List.mem_cons, *,true_or,or_true]
   simp [zbx,hm]
 refine za4 ?_
 refine br (fun c11=>?_) (fun c11=>?_)
 · refine ⟨(hx1_.trans hx2_),?_⟩
   have hm:s∈kw:=by simp only [kw,List.mem_cons, *,true_or,or_true]
   simp [zbx,hm]
 refine za4 ?_
 refine br (fun c12=>?_) (fun c12=>?_)
 · refine ⟨(hx1_.trans hx2_),?_⟩
   have hm:s∈kw:=by simp only [kw,List.mem_cons, *,true_or,or_true]
   simp [zbx,hm]
 refine za4 ?_
 refine br (fun c13=>?_) (fun c13=>?_)
 · refine ⟨(hx1_.trans hx2_),?_⟩
   have hm:s∈kw:=by simp only [kw,List.mem_cons, *,true_or,or_true]
   simp [zbx,hm]
 refine za4 ?_
 refine br (fun c14=>?_) (fun c14=>?_)
 · refine ⟨(hx1_.trans hx2_),?_⟩
   have hm:s∈kw:=by simp only [kw,List.mem_cons, *,true_or,or_true]
   simp [zbx,hm]
 refine za4 ?_
 refine br (fun c15=>?_) (fun c15=>?_)
 · refine ⟨(hx1_.trans hx2_),?_⟩
   have hm:s∈kw:=by simp only [kw,List.mem_cons, *,true_or,or_true]
   simp [zbx,hm]
 refine za4 ?_
 refine br (fun c16=>?_) (fun c16=>?_)
 · refine ⟨(hx1_.trans hx2_),?_⟩
   have hm:s∈kw:=by simp only [kw,List.mem_cons, *,true_or,or_true]
   simp [zbx,hm]
 refine za4 ?_
 refine br (fun c17=>?_) (fun c17=>?_)
 · refine ⟨(hx1_.trans hx2_),?_⟩
   have hm:s∈kw:=by simp only [kw,List.mem_cons, *,true_or,or_true]
   simp [zbx,hm]
 refine za4 ?_
 refine br (fun c18=>?_) (fun c18=>?_)
 · refine ⟨(hx1_.trans hx2_),?_⟩
   have hm:s∈kw:=by simp only [kw,List.mem_cons, *,true_or,or_true]
   simp [zbx,hm]
 refine za4 ?_
 refine br (fun c19=>?_) (fun c19=>?_)
 · refine ⟨(hx1_.trans hx2_),?_⟩
   have hm:s∈kw:=by simp only [kw,List.mem_cons, *,true_or,or_true]
   simp [zbx,hm]
 refine ⟨(hx1_.trans hx2_),?_⟩
 have hm:s∉kw:=by simp only [kw,List.mem_cons,List.not_mem_nil,or_false, *,not_false_eq_true]
 simp [zbx,hm,znF (by omega) (by omega) (Decidable.not_not.1 c3) (by omega) hinv]
def zbD:Nat→DTerm→Bool
 | n,.mk k num s ks=>
   if k=1 then decide (0≤num∧num≤1000000000)&&decide (s=ByteArray.mk #[])&&decide ((ks.length:Int)=0)
   else if k=2 then decide (num=0)&&zbx s&&decide ((ks.length:Int)=0)
   else decide (3≤k∧k≤9)&&decide (num=0)&&decide (s=ByteArray.mk #[])&&decide ((ks.length:Int)=if k=8 then 1 else 2) &&
     (match n with | 0=>false | m+1=>ks.all (zbD m))
theorem zdQ {n:Nat} {t:DTerm} (h:t.kind=1):zbD n t=(decide (0≤t.num∧t.num≤1000000000)&&decide (t.name=ByteArray.mk #[])&&decide ((t.kids.length:Int)=0)):=by
 obtain ⟨k,num,s,ks⟩:=t
 have:k=1:=h
 unfold zbD;rw [if_pos this];rfl
theorem zfm {n:Nat} {t:DTerm} (h:t.kind=2):zbD n t=(decide (t.num=0)&&zbx t.name&&decide ((t.kids.length:Int)=0)):=by
 obtain ⟨k,num,s,ks⟩:=t
 have:k=2:=h
 unfold zbD;rw [if_neg (by omega),if_pos this];rfl
theorem zbi {n:Nat} {t:DTerm} (h1:¬t.kind=1) (h2:¬t.kind=2):zbD n t =
   (decide (3≤t.kind∧t.kind≤9)&&decide (t.num=0)&&decide (t.name=ByteArray.mk #[])&&decide ((t.kids.length:Int)=if t.kind=8 then 1 else 2)&&(match n with | 0=>false | m+1=>t.kids.all (zbD m))):=by
 obtain ⟨k,num,s,ks⟩:=t
 have h1:¬k=1:=h1
 have h2:¬k=2:=h2
 unfold zbD;rw [if_neg h1,if_neg h2];rfl
theorem zhA {α:Type} {p:α→Bool} {l:List α} {k:Nat} (hk:k<l.length) (h:(l.take k).all p=true) (hp:p l[k]=true):(l.take (k+1)).all p=true:=by
 rw [List.take_succ_eq_append_getElem hk,List.all_append,h];simp [hp]
theorem zgp {α:Type} {p:α→Bool} {l:List α} {k:Nat} (hk:k<l.length) (hp:p l[k]=false):l.all p=false:=by
 rw [List.all_eq_false];exact ⟨_,List.getElem_mem hk,by simp [hp]⟩
theorem zhB {α:Type} {p:α→Bool} {l:List α} {k:Nat} (hk:l.length≤k) (h:(l.take k).all p=true):l.all p=true:=by
 rwa [List.take_of_length_le hk] at h
def zvu (f:Nat) (n:Nat):Prop:=∀ {w W:World} {v:Value} {t:DTerm} {d:Int},Is W v t→Ext W w→d=(n:Int) →
 CALL Tryz.prog f [v,.int .i64 d] w fun r w'=>Ext w w'∧r=.bool (zbD n t)
def F177 (a0 a1:Value) (w:World) (R:VW):Prop:=
 oP (Instr.box 92 a0) w fun x2 w=>
 JOIN [] (fun J18=>
 rF 92 x2 0 w fun x7=>
 rL 3 x7 w fun x8=>
 rB .eql 3 T0 U0 x8 (iV 1) w fun x10=>
 BR x10
 (rF 92 x2 1 w fun x11=>
 rL 3 x11 w fun x12=>
 rB .geq 3 T0 U0 x12 (iV 0) w fun x13=>
 BR x13
 (rF 92 x2 1 w fun x15=>
 rL 3 x15 w fun x16=>
 rB .leq 3 T0 U0 x16 (iV 1000000000) w fun x17=>
 BR x17
 (rF 92 x2 2 w fun x20=>
 rL 9 x20 w fun x21=>
 rB .eql 9 T0 U0 x21 (Value.string (ByteArray.mk #[])) w fun x22=>
 BR x22
 (rF 92 x2 3 w fun x25=>
 rL 90 x25 w fun x26=>
 rN 90 3 x26 w fun x27=>
 rB .eql 3 T0 U0 x27 (iV 0) w fun x28=>
 R x28 w)
 (R (Value.bool false) w))
 (R (Value.bool false) w))
 (R (Value.bool false) w))
 (rB .eql 3 T0 U0 x8 (iV 2) w fun x31=>
 BR x31
 (rF 92 x2 1 w fun x32=>
 rL 3 x32 w fun x33=>
 rB .eql 3 T0 U0 x33 (iV 0) w fun x34=>
 BR x34
 (rF 92 x2 2 w fun x36=>
 rL 9 x36 w fun x37=>
 cL 176 [x37] w fun x38 w=>
 BR x38
 (rF 92 x2 3 w fun x41=>
 rL 90 x41 w fun x42=>
 rN 90 3 x42 w fun x43=>
 rB .eql 3 T0 U0 x43 (iV 0) w fun x44=>
 R x44 w)
 (R (Value.bool false) w))
 (R (Value.bool false) w))
 (rB .eql 3 T0 U0 x8 (iV 3) w fun x47=>
 BR x47
 (rF 92 x2 3 w fun x53=>
 rL 90 x53 w fun x54=>
 rN 90 3 x54 w fun x55=>
 rB .neq 3 T0 U0 x55 (iV 2) w fun x56=>
 BR x56
 (R (Value.bool false) w)
 (J18 [] w))
 (rB .eql 3 T0 U0 x8 (iV 4) w fun x48=>
 BR x48
 (rF 92 x2 3 w fun x53=>
 rL 90 x53 w fun x54=>
 rN 90 3 x54 w fun x55=>
 rB .neq 3 T0 U0 x55 (iV 2) w fun x56=>
 BR x56
 (R (Value.bool false) w)
 (J18 [] w))
 (rB .eql 3 T0 U0 x8 (iV 5) w fun x49=>
 BR x49
 (rF 92 x2 3 w fun x53=>
 rL 90 x53 w fun x54=>
 rN 90 3 x54 w fun x55=>
 rB .neq 3 T0 U0 x55 (iV 2) w fun x56=>
 BR x56
 (R (Value.bool false) w)
 (J18 [] w))
 (rB .eql 3 T0 U0 x8 (iV 6) w fun x50=>
 BR x50
 (rF 92 x2 3 w fun x53=>
 rL 90 x53 w fun x54=>
 rN 90 3 x54 w fun x55=>
 rB .neq 3 T0 U0 x55 (iV 2) w fun x56=>
 BR x56
 (R (Value.bool false) w)
 (J18 [] w))
 (rB .eql 3 T0 U0 x8 (iV 7) w fun x51=>
 BR x51
 (rF 92 x2 3 w fun x53=>
 rL 90 x53 w fun x54=>
 rN 90 3 x54 w fun x55=>
 rB .neq 3 T0 U0 x55 (iV 2) w fun x56=>
 BR x56
 (R (Value.bool false) w)
 (J18 [] w))
 (rB .eql 3 T0 U0 x8 (iV 9) w fun x52=>
 BR x52
 (rF 92 x2 3 w fun x53=>
 rL 90 x53 w fun x54=>
 rN 90 3 x54 w fun x55=>
 rB .neq 3 T0 U0 x55 (iV 2) w fun x56=>
 BR x56
 (R (Value.bool false) w)
 (J18 [] w))
 (rB .eql 3 T0 U0 x8 (iV 8) w fun x58=>
 BR x58
 (rF 92 x2 3 w fun x59=>
 rL 90 x59 w fun x60=>
 rN 90 3 x60 w fun x61=>
 rB .neq 3 T0 U0 x61 (iV 1) w fun x62=>
 BR x62
 (R (Value.bool false) w)
 (J18 [] w))
 (R (Value.bool false) w)))))))))) (fun u18 w=>
 rF 92 x2 1 w fun x63=>
 rL 3 x63 w fun x64=>
 rB .neq 3 T0 U0 x64 (iV 0) w fun x65=>
 BR x65
 (R (Value.bool false) w)
 (rF 92 x2 2 w fun x67=>
 rL 9 x67 w fun x68=>
 rB .neq 9 T0 U0 x68 (Value.string (ByteArray.mk #[])) w fun x69=>
 BR x69
 (R (Value.bool false) w)
 (rB .eql 3 T0 U0 a1 (iV 0) w fun x73=>
 BR x73
 (R (Value.bool false) w)
 (rF 92 x2 3 w fun x75=>
 rL 90 x75 w fun x76=>
 rN 90 3 x76 w fun x77=>
 LOOPI [78] [(iV 0)] w fun u21 w next21=>
 rC (u21 78) x77 w fun x79=>
 BR x79
 (rX 90 x76 (u21 78) w fun x80=>
 rL 92 x80 w fun x81=>
 oP (Instr.alloc 92 true (.tuple #[])) w fun x6 w=>
 oS 92 x6 x81 w fun w=>
 rL 92 x6 w fun x82=>
 rB .sub 3 T0 U0 a1 (iV 1) w fun x84=>
 cL 177 [x82,x84] w fun x85 w=>
 rD (Op.unary .not x85) w fun x86=>
 BR x86
 (R (Value.bool false) w)
 (rA (u21 78) (iV 1) w fun x87=>
 next21 [x87] w))
 (R (Value.bool true) w)))))
def cfg177:Cfg:=⟨extL,[(18,9223372036854775696,[])],[(21,309182778366441411431104592,[78])],[],[],[],[]⟩
theorem F177_call {a0 a1:Value} {w:World} {R:VW} (h:F177 a0 a1 w R):cL 177 [a0,a1] w R:=co (g:=cfg177) Tryz.func177 (by kernel_rfl) (by kernel_rfl) (by kernel_rfl) h
theorem zka {w:World} {v0:Value} {W0:World} {t:DTerm} {d:Int} {n:Nat} (h0:Is W0 v0 t) (e0:Ext W0 w) (hd:d=(n:Int)) (ih:∀ m,m+1=n→zvu 177 m) (hn:n≤6) :
   CALL Tryz.prog 177 [v0,.int .i64 d] w fun r w'=>Ext w w'∧(r=.bool (zbD n t)):=by
 refine F177_call ?_
 unfold F177
 refine zaD zdu rfl h0 e0 fun w1_ hx1_ hA2 hV2=>?_
 refine JOIN.mk (fun us w'=>us=[]∧Ext w1_ w'∧(3≤t.kind∧t.kind≤9∧(t.kids.length:Int)=(if t.kind=8 then 1 else 2))) ?_ ?_
 · refine zaa zeO ?_
   refine zab ty3 (zbG hA2) (Ext.refl w1_) fun hI8=>?_
   refine zao ?_
   refine br (fun c1=>?_) (fun c1=>?_)
   · refine zaa zd8 ?_
     refine zab ty3 (zbz hA2) (Ext.refl w1_) fun hI12=>?_
     refine zb9 ?_
     refine br (fun c2=>?_) (fun c2=>?_)
     · refine zaa zd8 ?_
       refine zab ty3 (zbz hA2) (Ext.refl w1_) fun hI16=>?_
       refine zdw ?_
       refine br (fun c3=>?_) (fun c3=>?_)
       · refine zaa zdA ?_
         refine zaH ty9 (zbc hA2) (Ext.refl w1_) fun hS21=>?_
         refine za4 ?_
         refine br (fun c4=>?_) (fun c4=>?_)
         · refine zaa zb3 ?_
           refine zac zhr (zaN hA2) (Ext.refl w1_) fun v26 h26=>?_
           have hln27:=zam h26
           refine zag u90 h26 ?_
           refine zao ?_
           refine ⟨hx1_,?_⟩
           rw [zdQ c1];simp only [c2,c3,c4,and_self,decide_true,Bool.true_and]
         refine ⟨hx1_,?_⟩
         rw [zdQ c1];simp only [c4,decide_false,Bool.and_false,Bool.false_and]
       refine ⟨hx1_,?_⟩
       rw [zdQ c1];simp only [c3,and_false,decide_false,Bool.false_and]
     refine ⟨hx1_,?_⟩
     rw [zdQ c1];simp only [c2,false_and,decide_false,Bool.false_and]
   refine zao ?_
   refine br (fun c5=>?_) (fun c5=>?_)
   · refine zaa zd8 ?_
     refine zab ty3 (zbz hA2) (Ext.refl w1_) fun hI33=>?_
     refine zao ?_
     refine br (fun c6=>?_) (fun c6=>?_)
     · refine zaa zdA ?_
       refine zaH ty9 (zbc hA2) (Ext.refl w1_) fun hS37=>?_
       refine (zgo ).mono ?_
       rintro _ w3_ ⟨hx3_,rfl⟩
       refine zbw (fun c7=>?_) (fun c7=>?_)
       · refine zaa zb3 ?_
         refine zac zhr (zaN hA2) hx3_ fun v42 h42=>?_
         have hln43:=zam h42
         refine zag u90 h42 ?_
         refine zao ?_
         refine ⟨(hx1_.trans hx3_),?_⟩
         rw [zfm c5];simp only [c6,c7,decide_true,Bool.true_and]
       refine ⟨(hx1_.trans hx3_),?_⟩
       rw [zfm c5];simp only [c6,c7,decide_true,Bool.true_and,Bool.false_and]
     refine ⟨hx1_,?_⟩
     rw [zfm c5];simp only [c6,decide_false,Bool.false_and]
   refine zao ?_
   refine br (fun c8=>?_) (fun c8=>?_)
   · refine zaa zb3 ?_
     refine zac zhr (zaN hA2) (Ext.refl w1_) fun v54 h54=>?_
     have hln55:=zam h54
     refine zag u90 h54 ?_
     refine zaI ?_
     refine br (fun c9=>?_) (fun c9=>?_)
     · refine ⟨hx1_,?_⟩
       rw [zbi c1 c5];simp [show ¬t.kind=8 by omega,show ¬(t.kids.length:Int)=2 from c9]
     refine ⟨by simp,Ext.refl w1_,?_⟩
     split<;>omega
   refine zao ?_
   refine br (fun c10=>?_) (fun c10=>?_)
   · refine zaa zb3 ?_
     refine zac zhr (zaN hA2) (Ext.refl w1_) fun v54 h54=>?_
     have hln55:=zam h54
     refine zag u90 h54 ?_
     refine zaI ?_
     refine br (fun c11=>?_) (fun c11=>?_)
     · refine ⟨hx1_,?_⟩
       rw [zbi c1 c5];simp [show ¬t.kind=8 by omega,show ¬(t.kids.length:Int)=2 from c11]
     refine ⟨by simp,Ext.refl w1_,?_⟩
     split<;>omega
   refine zao ?_
   refine br (fun c12=>?_) (fun c12=>?_)
   · refine zaa zb3 ?_
     refine zac zhr (zaN hA2) (Ext.refl w1_) fun v54 h54=>?_
     have hln55:=zam h54
     refine zag u90 h54 ?_
     refine zaI ?_
     refine br (fun c13=>?_) (fun c13=>?_)
     · refine ⟨hx1_,?_⟩
       rw [zbi c1 c5];simp [show ¬t.kind=8 by omega,show ¬(t.kids.length:Int)=2 from c13]
     refine ⟨by simp,Ext.refl w1_,?_⟩
     split<;>omega
   refine zao ?_
   refine br (fun c14=>?_) (fun c14=>?_)
   · refine zaa zb3 ?_
     refine zac zhr (zaN hA2) (Ext.refl w1_) fun v54 h54=>?_
     have hln55:=zam h54
     refine zag u90 h54 ?_
     refine zaI ?_
     refine br (fun c15=>?_) (fun c15=>?_)
     · refine ⟨hx1_,?_⟩
       rw [zbi c1 c5];simp [show ¬t.kind=8 by omega,show ¬(t.kids.length:Int)=2 from c15]
     refine ⟨by simp,Ext.refl w1_,?_⟩
     split<;>omega
   refine zao ?_
   refine br (fun c16=>?_) (fun c16=>?_)
   · refine zaa zb3 ?_
     refine zac zhr (zaN hA2) (Ext.refl w1_) fun v54 h54=>?_
     have hln55:=zam h54
     refine zag u90 h54 ?_
     refine zaI ?_
     refine br (fun c17=>?_) (fun c17=>?_)
     · refine ⟨hx1_,?_⟩
       rw [zbi c1 c5];simp [show ¬t.kind=8 by omega,show ¬(t.kids.length:Int)=2 from c17]
     refine ⟨by simp,Ext.refl w1_,?_⟩
     split<;>omega
   refine zao ?_
   refine br (fun c18=>?_) (fun c18=>?_)
   · refine zaa zb3 ?_
     refine zac zhr (zaN hA2) (Ext.refl w1_) fun v54 h54=>?_
     have hln55:=zam h54
     refine zag u90 h54 ?_
     refine zaI ?_
     refine br (fun c19=>?_) (fun c19=>?_)
     · refine ⟨hx1_,?_⟩
       rw [zbi c1 c5];simp [show ¬t.kind=8 by omega,show ¬(t.kids.length:Int)=2 from c19]
     refine ⟨by simp,Ext.refl w1_,?_⟩
     split<;>omega
   refine zao ?_
   refine br (fun c20=>?_) (fun c20=>?_)
   · refine zaa zb3 ?_
     refine zac zhr (zaN hA2) (Ext.refl w1_) fun v60 h60=>?_
     have hln61:=zam h60
     refine zag u90 h60 ?_
     refine zaI ?_
     refine br (fun c21=>?_) (fun c21=>?_)
     · refine ⟨hx1_,?_⟩
       rw [zbi c1 c5];simp [c20,show ¬(t.kids.length:Int)=1 from c21]
     refine ⟨by simp,Ext.refl w1_,?_⟩
     split<;>omega
   refine ⟨hx1_,?_⟩
   rw [zbi c1 c5];simp [show ¬(3≤t.kind∧t.kind≤9) by omega]
 rintro uj18 w2_ ⟨hu,hx3_,hk1,hk2,hk3⟩
 simp only [List.map_cons,List.map_nil,List.cons.injEq,and_true] at hu
 clear hu
 refine zaa zd8 ?_
 refine zab ty3 (zbz hA2) hx3_ fun hI64=>?_
 refine zaI ?_
 refine br (fun c22=>?_) (fun c22=>?_)
 · refine ⟨(hx1_.trans hx3_),?_⟩
   rw [zbi (by omega) (by omega)];simp [c22]
 refine zaa zdA ?_
 refine zaH ty9 (zbc hA2) hx3_ fun hS68=>?_
 refine zgO ?_
 refine br (fun c23=>?_) (fun c23=>?_)
 · refine ⟨(hx1_.trans hx3_),?_⟩
   rw [zbi (by omega) (by omega)];simp [c23]
 refine zao ?_
 refine br (fun c24=>?_) (fun c24=>?_)
 · refine ⟨(hx1_.trans hx3_),?_⟩
   rw [zbi (by omega) (by omega)];simp [show n=0 by omega]
 refine zaa zb3 ?_
 refine zac zhr (zaN hA2) hx3_ fun v76 h76=>?_
 have hln77:=zam h76
 refine zag u90 h76 ?_
 refine zaq (t.kids.length) (fun k us w'=>us=[.int .i64 (k:Int)]∧Ext w2_ w'∧((t.kids.take k).all (zbD (n-1))=true)) (0) (by omega) ⟨by simp,Ext.refl w2_,by simp⟩ ?_
 rintro k m21 uu21 w4_ hk21 ⟨hu,hx4_,hinv⟩
 simp only [List.map_cons,List.map_nil,List.cons.injEq,and_true] at hu
 try rw [hu]
 try clear hu
 refine zah ?_
 refine br (fun c25=>?_) (fun c25=>?_)
 · refine zad u90 zdu h76 (by omega) fun b80 o80 h80=>?_
   refine zac zdu h80 (hx3_.trans hx4_) fun v81 h81=>?_
   refine zbX zuX rfl zdu rfl h81 (hx3_.trans hx4_) fun w5_ hx5_ hA6 hV6=>?_
   refine zbC hV6 (Ext.refl w5_) ?_
   refine zbf (by unfold I64;omega) ?_
   refine (ih (n-1) (by omega) h81 (hx3_.trans (hx4_.trans hx5_)) (by omega)).mono ?_
   rintro _ w6_ ⟨hx6_,rfl⟩
   refine zaV ?_
   refine zbw (fun c26=>?_) (fun c26=>?_)
   · refine ⟨(hx1_.trans (hx3_.trans (hx4_.trans (hx5_.trans hx6_)))),?_⟩
     rw [zbi (by omega) (by omega)]
     obtain ⟨m,rfl⟩:∃ m,n=m+1:=⟨n-1,by omega⟩
     rw [Bool.not_eq_true',Nat.add_sub_cancel] at c26
     simp only [zgp (by omega) c26,Bool.and_false]
   have hln:=zam h76
   refine zaf (by omega) ?_
   refine ⟨m21-1,by omega,k+1,by omega,by simp,(hx4_.trans (hx5_.trans hx6_)),?_⟩
   exact zhA (by omega) hinv (by simpa using c26)
 refine ⟨(hx1_.trans (hx3_.trans hx4_)),?_⟩
 rw [zbi (by omega) (by omega)]
 obtain ⟨m,rfl⟩:∃ m,n=m+1:=⟨n-1,by omega⟩
 rw [Nat.add_sub_cancel] at hinv
 simp only [show 3≤t.kind∧t.kind≤9 from ⟨hk1,hk2⟩,Decidable.not_not.1 c22,Decidable.not_not.1 c23,hk3,zhB (by omega) hinv,and_self,decide_true,Bool.and_self]
theorem zid:∀ (n:Nat),n≤6→zvu 177 n
 | n,hn=>by intro h e hd;exact zka h e hd (fun m hm=>zid m (by omega)) hn
def F141 (a0:Value) (w:World) (R:VW):Prop:=
 oP (Instr.box 92 a0) w fun x1 w=>
 rL 92 x1 w fun x3=>
 cL 177 [x3,(iV 6)] w fun x4 w=>
 R x4 w
def cfg141:Cfg:=⟨extL,[],[],[],[],[],[]⟩
theorem F141_call {a0:Value} {w:World} {R:VW} (h:F141 a0 w R):cL 141 [a0] w R:=co (g:=cfg141) Tryz.func141 (by kernel_rfl) (by kernel_rfl) (by kernel_rfl) h
theorem zez {w:World} {v0:Value} {W0:World} {t:DTerm}  (h0:Is W0 v0 t) (e0:Ext W0 w)  :
   CALL Tryz.prog 141 [v0] w fun r w'=>Ext w w'∧(r=.bool (zbD 6 t)):=by
 refine F141_call ?_
 unfold F141
 refine zaD zdu rfl h0 e0 fun w1_ hx1_ hA1 hV1=>?_
 refine zbC hV1 (Ext.refl w1_) ?_
 refine ((zid 6 (by omega)) h0 (e0.trans hx1_) rfl).mono ?_
 rintro _ w2_ ⟨hx2_,rfl⟩
 refine ⟨(hx1_.trans hx2_),?_⟩
 rfl
def F119 (a0 a1:Value) (w:World) (R:VW):Prop:=
 oP (Instr.box 92 a0) w fun x2 w=>
 rF 92 x2 0 w fun x7=>
 rL 3 x7 w fun x8=>
 rB .eql 3 T0 U0 x8 (iV 1) w fun x10=>
 BR x10
 (rF 92 x2 1 w fun x11=>
 rL 3 x11 w fun x12=>
 cL 38 [x12,(iV 0),(iV 1000000000)] w fun x13 w=>
 BR x13
 (rF 92 x2 2 w fun x15=>
 rL 9 x15 w fun x16=>
 rB .eql 9 T0 U0 x16 (Value.string (ByteArray.mk #[])) w fun x17=>
 BR x17
 (rF 92 x2 3 w fun x20=>
 rL 90 x20 w fun x21=>
 rN 90 3 x21 w fun x22=>
 rB .eql 3 T0 U0 x22 (iV 0) w fun x23=>
 R x23 w)
 (R (Value.bool false) w))
 (R (Value.bool false) w))
 (rB .eql 3 T0 U0 x8 (iV 2) w fun x26=>
 BR x26
 (rF 92 x2 1 w fun x27=>
 rL 3 x27 w fun x28=>
 rB .eql 3 T0 U0 x28 (iV 0) w fun x29=>
 BR x29
 (rF 92 x2 2 w fun x31=>
 rL 9 x31 w fun x32=>
 cL 117 [x32] w fun x33 w=>
 BR x33
 (rF 92 x2 3 w fun x36=>
 rL 90 x36 w fun x37=>
 rN 90 3 x37 w fun x38=>
 rB .eql 3 T0 U0 x38 (iV 0) w fun x39=>
 R x39 w)
 (R (Value.bool false) w))
 (R (Value.bool false) w))
 (JOIN [5] (fun J9=>
 rF 92 x2 0 w fun x41=>
 rL 3 x41 w fun x42=>
 rB .eql 3 T0 U0 x42 (iV 8) w fun x43=>
 BR x43
 (J9 [(iV 1)] w)
 (J9 [(iV 2)] w)) (fun u9 w=>
 rF 92 x2 0 w fun x44=>
 rL 3 x44 w fun x45=>
 cL 38 [x45,(iV 3),(iV 9)] w fun x46 w=>
 rD (Op.unary .not x46) w fun x47=>
 BR x47
 (R (Value.bool false) w)
 (rF 92 x2 1 w fun x49=>
 rL 3 x49 w fun x50=>
 rB .neq 3 T0 U0 x50 (iV 0) w fun x51=>
 BR x51
 (R (Value.bool false) w)
 (rF 92 x2 2 w fun x54=>
 rL 9 x54 w fun x55=>
 rB .neq 9 T0 U0 x55 (Value.string (ByteArray.mk #[])) w fun x56=>
 BR x56
 (R (Value.bool false) w)
 (rF 92 x2 3 w fun x59=>
 rL 90 x59 w fun x60=>
 rN 90 3 x60 w fun x61=>
 rB .neq 3 T0 T0 x61 (u9 5) w fun x63=>
 BR x63
 (R (Value.bool false) w)
 (rB .eql 3 T0 U0 a1 (iV 0) w fun x67=>
 BR x67
 (R (Value.bool false) w)
 (LOOPI [6] [(iV 0)] w fun u12 w next12=>
 rF 92 x2 3 w fun x70=>
 rL 90 x70 w fun x71=>
 rN 90 3 x71 w fun x72=>
 rC (u12 6) x72 w fun x73=>
 BR x73
 (rF 92 x2 3 w fun x76=>
 rL 90 x76 w fun x77=>
 rX 90 x77 (u12 6) w fun x79=>
 rL 92 x79 w fun x80=>
 rB .sub 3 T0 U0 a1 (iV 1) w fun x82=>
 cL 119 [x80,x82] w fun x83 w=>
 rD (Op.unary .not x83) w fun x84=>
 BR x84
 (R (Value.bool false) w)
 (rA (u12 6) (iV 1) w fun x75=>
 next12 [x75] w))
 (R (Value.bool true) w)))))))))
def cfg119:Cfg:=⟨extL,[(9,15393162788896,[5])],[(12,38685035931857774884946000,[6])],[],[],[],[]⟩
theorem F119_call {a0 a1:Value} {w:World} {R:VW} (h:F119 a0 a1 w R):cL 119 [a0,a1] w R:=co (g:=cfg119) Tryz.func119 (by kernel_rfl) (by kernel_rfl) (by kernel_rfl) h
theorem zkb {w:World} {v0:Value} {W0:World} {t:DTerm} {d:Int} {n:Nat} (h0:Is W0 v0 t) (e0:Ext W0 w) (hd:d=(n:Int)) (ih:∀ m,m+1=n→zvu 119 m) (hn:n≤6) :
   CALL Tryz.prog 119 [v0,.int .i64 d] w fun r w'=>Ext w w'∧(r=.bool (zbD n t)):=by
 refine F119_call ?_
 unfold F119
 refine zaD zdu rfl h0 e0 fun w1_ hx1_ hA2 hV2=>?_
 refine zaa zeO ?_
 refine zab ty3 (zbG hA2) (Ext.refl w1_) fun hI8=>?_
 refine zao ?_
 refine br (fun c1=>?_) (fun c1=>?_)
 · refine zaa zd8 ?_
   refine zab ty3 (zbz hA2) (Ext.refl w1_) fun hI12=>?_
   refine (l01In_ok ).mono ?_
   rintro _ w2_ ⟨hx2_,rfl⟩
   refine br (fun c2=>?_) (fun c2=>?_)
   · refine zaa zdA ?_
     refine zaH ty9 (zbc hA2) hx2_ fun hS16=>?_
     refine za4 ?_
     refine br (fun c3=>?_) (fun c3=>?_)
     · refine zaa zb3 ?_
       refine zac zhr (zaN hA2) hx2_ fun v21 h21=>?_
       have hln22:=zam h21
       refine zag u90 h21 ?_
       refine zao ?_
       refine ⟨(hx1_.trans hx2_),?_⟩
       rw [zdQ c1];simp only [c2,c3,and_self,decide_true,Bool.true_and]
     refine ⟨(hx1_.trans hx2_),?_⟩
     rw [zdQ c1];simp only [c3,decide_false,Bool.and_false,Bool.false_and]
   refine ⟨(hx1_.trans hx2_),?_⟩
   rw [zdQ c1];simp only [c2,decide_false,Bool.false_and]
 refine zao ?_
 refine br (fun c4=>?_) (fun c4=>?_)
 · refine zaa zd8 ?_
   refine zab ty3 (zbz hA2) (Ext.refl w1_) fun hI28=>?_
   refine zao ?_
   refine br (fun c5=>?_) (fun c5=>?_)
   · refine zaa zdA ?_
     refine zaH ty9 (zbc hA2) (Ext.refl w1_) fun hS32=>?_
     refine (zgn ).mono ?_
     rintro _ w3_ ⟨hx3_,rfl⟩
     refine zbw (fun c6=>?_) (fun c6=>?_)
     · refine zaa zb3 ?_
       refine zac zhr (zaN hA2) hx3_ fun v37 h37=>?_
       have hln38:=zam h37
       refine zag u90 h37 ?_
       refine zao ?_
       refine ⟨(hx1_.trans hx3_),?_⟩
       rw [zfm c4];simp only [c5,c6,decide_true,Bool.true_and]
     refine ⟨(hx1_.trans hx3_),?_⟩
     rw [zfm c4];simp only [c5,c6,decide_true,Bool.true_and,Bool.false_and]
   refine ⟨hx1_,?_⟩
   rw [zfm c4];simp only [c5,decide_false,Bool.false_and]
 refine JOIN.mk (fun us w'=>us=[.int .i64 (if t.kind=8 then 1 else 2)]∧Ext w1_ w'∧(True)) ?_ ?_
 · refine zaa zeO ?_
   refine zab ty3 (zbG hA2) (Ext.refl w1_) fun hI42=>?_
   refine zao ?_
   refine br (fun c7=>?_) (fun c7=>?_)
   · refine ⟨by rw [if_pos c7],Ext.refl w1_,?_⟩
     trivial
   refine ⟨by rw [if_neg c7],Ext.refl w1_,?_⟩
   trivial
 rintro uj9 w4_ ⟨hu,hx4_,hinv⟩
 simp only [List.map_cons,List.map_nil,List.cons.injEq,and_true] at hu
 try rw [hu]
 try clear hu
 refine zaa zeO ?_
 refine zab ty3 (zbG hA2) hx4_ fun hI45=>?_
 refine (l01In_ok ).mono ?_
 rintro _ w5_ ⟨hx5_,rfl⟩
 refine zaz ?_
 refine br (fun c8=>?_) (fun c8=>?_)
 · refine ⟨(hx1_.trans (hx4_.trans hx5_)),?_⟩
   rw [zbi c1 c4];simp only [c8,decide_false,Bool.false_and]
 refine zaa zd8 ?_
 refine zab ty3 (zbz hA2) (hx4_.trans hx5_) fun hI50=>?_
 refine zaI ?_
 refine br (fun c9=>?_) (fun c9=>?_)
 · refine ⟨(hx1_.trans (hx4_.trans hx5_)),?_⟩
   rw [zbi c1 c4];simp only [show ¬t.num=0 from c9,decide_false,Bool.false_and,Bool.and_false]
 refine zaa zdA ?_
 refine zaH ty9 (zbc hA2) (hx4_.trans hx5_) fun hS55=>?_
 refine zgO ?_
 refine br (fun c10=>?_) (fun c10=>?_)
 · refine ⟨(hx1_.trans (hx4_.trans hx5_)),?_⟩
   rw [zbi c1 c4];simp only [show ¬t.name=_ from c10,decide_false,Bool.false_and,Bool.and_false]
 refine zaa zb3 ?_
 refine zac zhr (zaN hA2) (hx4_.trans hx5_) fun v60 h60=>?_
 have hln61:=zam h60
 refine zag u90 h60 ?_
 refine zaI ?_
 refine br (fun c11=>?_) (fun c11=>?_)
 · refine ⟨(hx1_.trans (hx4_.trans hx5_)),?_⟩
   rw [zbi c1 c4];simp only [show ¬(t.kids.length:Int)=_ from c11,decide_false,Bool.false_and,Bool.and_false]
 refine zao ?_
 refine br (fun c12=>?_) (fun c12=>?_)
 · refine ⟨(hx1_.trans (hx4_.trans hx5_)),?_⟩
   rw [zbi c1 c4];simp [show n=0 by omega]
 refine zaq (t.kids.length) (fun k us w'=>us=[.int .i64 (k:Int)]∧Ext w5_ w'∧((t.kids.take k).all (zbD (n-1))=true)) (0) (by omega) ⟨by simp,Ext.refl w5_,by simp⟩ ?_
 rintro k m12 uu12 w6_ hk12 ⟨hu,hx6_,hinv⟩
 simp only [List.map_cons,List.map_nil,List.cons.injEq,and_true] at hu
 try rw [hu]
 try clear hu
 refine zaa zb3 ?_
 refine zac zhr (zaN hA2) (hx4_.trans (hx5_.trans hx6_)) fun v71 h71=>?_
 have hln72:=zam h71
 refine zag u90 h71 ?_
 refine zah ?_
 refine br (fun c13=>?_) (fun c13=>?_)
 · refine zaa zb3 ?_
   refine zac zhr (zaN hA2) (hx4_.trans (hx5_.trans hx6_)) fun v77 h77=>?_
   refine zad u90 zdu h77 (by omega) fun b79 o79 h79=>?_
   refine zac zdu h79 (hx4_.trans (hx5_.trans hx6_)) fun v80 h80=>?_
   refine zbf (by unfold I64;omega) ?_
   refine (ih (n-1) (by omega) h80 (hx4_.trans (hx5_.trans hx6_)) (by omega)).mono ?_
   rintro _ w7_ ⟨hx7_,rfl⟩
   refine zaV ?_
   refine zbw (fun c14=>?_) (fun c14=>?_)
   · refine ⟨(hx1_.trans (hx4_.trans (hx5_.trans (hx6_.trans hx7_)))),?_⟩
     rw [zbi c1 c4]
     obtain ⟨m,rfl⟩:∃ m,n=m+1:=⟨n-1,by omega⟩
     rw [Bool.not_eq_true',Nat.add_sub_cancel] at c14
     simp only [zgp (by omega) c14,Bool.and_false]
   have hln:=zam h71
   refine zaf (by omega) ?_
   refine ⟨m12-1,by omega,k+1,by omega,by simp,(hx6_.trans hx7_),?_⟩
   exact zhA (by omega) hinv (by simpa using c14)
 refine ⟨(hx1_.trans (hx4_.trans (hx5_.trans hx6_))),?_⟩
 rw [zbi c1 c4]
 obtain ⟨m,rfl⟩:∃ m,n=m+1:=⟨n-1,by omega⟩
 rw [Nat.add_sub_cancel] at hinv
 simp only [Decidable.not_not.1 c8,Decidable.not_not.1 c9,Decidable.not_not.1 c10,Decidable.not_not.1 c11,zhB (by omega) hinv,and_self,decide_true,Bool.and_self]
theorem zie:∀ (n:Nat),n≤6→zvu 119 n
 | n,hn=>by intro h e hd;exact zkb h e hd (fun m hm=>zie m (by omega)) hn
def F68 (a0:Value) (w:World) (R:VW):Prop:=
 oP (Instr.box 92 a0) w fun x1 w=>
 rL 92 x1 w fun x3=>
 cL 119 [x3,(iV 6)] w fun x4 w=>
 R x4 w
def cfg68:Cfg:=⟨extL,[],[],[],[],[],[]⟩
theorem F68_call {a0:Value} {w:World} {R:VW} (h:F68 a0 w R):cL 68 [a0] w R:=co (g:=cfg68) Tryz.func68 (by kernel_rfl) (by kernel_rfl) (by kernel_rfl) h
theorem zeA {w:World} {v0:Value} {W0:World} {t:DTerm}  (h0:Is W0 v0 t) (e0:Ext W0 w)  :
   CALL Tryz.prog 68 [v0] w fun r w'=>Ext w w'∧(r=.bool (zbD 6 t)):=by
 refine F68_call ?_
 unfold F68
 refine zaD zdu rfl h0 e0 fun w1_ hx1_ hA1 hV1=>?_
 refine zbC hV1 (Ext.refl w1_) ?_
 refine ((zie 6 (by omega)) h0 (e0.trans hx1_) rfl).mono ?_
 rintro _ w2_ ⟨hx2_,rfl⟩
 refine ⟨(hx1_.trans hx2_),?_⟩
 rfl
def term0:DTerm:=.mk 0 0 (ByteArray.mk #[]) []
def F143 (a0:Value) (w:World) (R:VW):Prop:=
 oP (Instr.box 92 a0) w fun x1 w=>
 rF 92 x1 0 w fun x3=>
 rL 3 x3 w fun x4=>
 rB .eql 3 T0 U0 x4 (iV 0) w fun x5=>
 BR x5
 (rF 92 x1 1 w fun x7=>
 rL 3 x7 w fun x8=>
 rB .eql 3 T0 U0 x8 (iV 0) w fun x9=>
 BR x9
 (rF 92 x1 2 w fun x12=>
 rL 9 x12 w fun x13=>
 rB .eql 9 T0 U0 x13 (Value.string (ByteArray.mk #[])) w fun x14=>
 BR x14
 (rF 92 x1 3 w fun x17=>
 rL 90 x17 w fun x18=>
 rN 90 3 x18 w fun x19=>
 rB .eql 3 T0 U0 x19 (iV 0) w fun x20=>
 R x20 w)
 (R (Value.bool false) w))
 (R (Value.bool false) w))
 (R (Value.bool false) w)
def cfg143:Cfg:=⟨extL,[],[],[],[],[],[]⟩
theorem F143_call {a0:Value} {w:World} {R:VW} (h:F143 a0 w R):cL 143 [a0] w R:=co (g:=cfg143) Tryz.func143 (by kernel_rfl) (by kernel_rfl) (by kernel_rfl) h
theorem zkc {w:World} {v0:Value} {W0:World} {t:DTerm}  (h0:Is W0 v0 t) (e0:Ext W0 w)  :
   CALL Tryz.prog 143 [v0] w fun r w'=>Ext w w'∧(r=.bool (decide (t=term0))):=by
 refine F143_call ?_
 unfold F143
 refine zaD zdu rfl h0 e0 fun w1_ hx1_ hA1 hV1=>?_
 refine zaa zeO ?_
 refine zab ty3 (zbG hA1) (Ext.refl w1_) fun hI4=>?_
 refine zao ?_
 refine br (fun c1=>?_) (fun c1=>?_)
 · refine zaa zd8 ?_
   refine zab ty3 (zbz hA1) (Ext.refl w1_) fun hI8=>?_
   refine zao ?_
   refine br (fun c2=>?_) (fun c2=>?_)
   · refine zaa zdA ?_
     refine zaH ty9 (zbc hA1) (Ext.refl w1_) fun hS13=>?_
     refine za4 ?_
     refine br (fun c3=>?_) (fun c3=>?_)
     · refine zaa zb3 ?_
       refine zac zhr (zaN hA1) (Ext.refl w1_) fun v18 h18=>?_
       have hln19:=zam h18
       refine zag u90 h18 ?_
       refine zao ?_
       refine ⟨hx1_,?_⟩
       congr 1
       rw [decide_eq_decide,DTerm.ext_iff]
       exact ⟨fun h=>⟨c1,c2,c3,List.eq_nil_of_length_eq_zero (by omega)⟩,fun h=>by rw [h.2.2.2];rfl⟩
     refine ⟨hx1_,?_⟩
     have:t≠term0:=fun e=>c3 (by rw [e];rfl)
     simp [this]
   refine ⟨hx1_,?_⟩
   have:t≠term0:=fun e=>c2 (by rw [e];rfl)
   simp [this]
 refine ⟨hx1_,?_⟩
 have:t≠term0:=fun e=>c1 (by rw [e];rfl)
 simp [this]
def F70 (a0 a1:Value) (w:World) (R:VW):Prop:=
 oP (Instr.box 92 a0) w fun x2 w=>
 oP (Instr.box 92 a1) w fun x3 w=>
 rF 92 x2 0 w fun x6=>
 rL 3 x6 w fun x7=>
 rF 92 x3 0 w fun x8=>
 rL 3 x8 w fun x9=>
 rB .neq 3 T0 T0 x7 x9 w fun x10=>
 BR x10
 (R (Value.bool false) w)
 (rF 92 x2 1 w fun x12=>
 rL 3 x12 w fun x13=>
 rF 92 x3 1 w fun x14=>
 rL 3 x14 w fun x15=>
 rB .neq 3 T0 T0 x13 x15 w fun x16=>
 BR x16
 (R (Value.bool false) w)
 (rF 92 x2 2 w fun x19=>
 rL 9 x19 w fun x20=>
 rF 92 x3 2 w fun x21=>
 rL 9 x21 w fun x22=>
 rB .neq 9 T0 T0 x20 x22 w fun x23=>
 BR x23
 (R (Value.bool false) w)
 (rF 92 x2 3 w fun x26=>
 rL 90 x26 w fun x27=>
 rN 90 3 x27 w fun x28=>
 rF 92 x3 3 w fun x29=>
 rL 90 x29 w fun x30=>
 rN 90 3 x30 w fun x31=>
 rB .neq 3 T0 T0 x28 x31 w fun x32=>
 BR x32
 (R (Value.bool false) w)
 (LOOPI [5] [(iV 0)] w fun u4 w next4=>
 rF 92 x2 3 w fun x35=>
 rL 90 x35 w fun x36=>
 rN 90 3 x36 w fun x37=>
 rC (u4 5) x37 w fun x38=>
 BR x38
 ((fun w=>rF 92 x2 3 w fun x41=>
 rL 90 x41 w fun x42=>
 rX 90 x42 (u4 5) w fun x44=>
 rL 92 x44 w fun x45=>
 rF 92 x3 3 w fun x46=>
 rL 90 x46 w fun x47=>
 rX 90 x47 (u4 5) w fun x49=>
 rL 92 x49 w fun x50=>
 cL 70 [x45,x50] w fun x51 w=>
 rD (Op.unary .not x51) w fun x52=>
 BR x52
 (R (Value.bool false) w)
 (rA (u4 5) (iV 1) w fun x40=>
 next4 [x40] w)) (World.drew1 w))
 (R (Value.bool true) w)))))
def cfg70:Cfg:=⟨extL,[],[(4,9007182074871856,[5])],[(6,[0,1,2,3,4,5,6,7,8,9,10,11],0)],[],[],[]⟩
theorem F70_call {a0 a1:Value} {w:World} {R:VW} (h:F70 a0 a1 w R):cL 70 [a0,a1] w R:=co (g:=cfg70) Tryz.func70 (by kernel_rfl) (by kernel_rfl) (by kernel_rfl) h
theorem zlo {w:World} {v0:Value} {W0:World} {t:DTerm} {v1:Value} {W1:World} {t2:DTerm}  (h0:Is W0 v0 t) (e0:Ext W0 w) (h1:Is W1 v1 t2) (e1:Ext W1 w) (ht:t2=term0) :
   CALL Tryz.prog 70 [v0,v1] w fun r w'=>Ext w w'∧(r=.bool (decide (t=term0))):=by
 refine F70_call ?_
 unfold F70
 subst ht
 refine zaD zdu rfl h0 e0 fun w1_ hx1_ hA2 hV2=>?_
 refine zaD zdu rfl h1 (e1.trans hx1_) fun w2_ hx2_ hA3 hV3=>?_
 refine zaa zeO ?_
 refine zab ty3 (zbG hA2) hx2_ fun hI7=>?_
 refine zaa zeO ?_
 refine zab ty3 (zbG hA3) (Ext.refl w2_) fun hI9=>?_
 refine zaI ?_
 refine br (fun c1=>?_) (fun c1=>?_)
 · refine ⟨(hx1_.trans hx2_),?_⟩
   have:t≠term0:=fun e=>c1 (by rw [e])
   simp [this]
 refine zaa zd8 ?_
 refine zab ty3 (zbz hA2) hx2_ fun hI13=>?_
 refine zaa zd8 ?_
 refine zab ty3 (zbz hA3) (Ext.refl w2_) fun hI15=>?_
 refine zaI ?_
 refine br (fun c2=>?_) (fun c2=>?_)
 · refine ⟨(hx1_.trans hx2_),?_⟩
   have:t≠term0:=fun e=>c2 (by rw [e])
   simp [this]
 refine zaa zdA ?_
 refine zaH ty9 (zbc hA2) hx2_ fun hS20=>?_
 refine zaa zdA ?_
 refine zaH ty9 (zbc hA3) (Ext.refl w2_) fun hS22=>?_
 refine zgO ?_
 refine br (fun c3=>?_) (fun c3=>?_)
 · refine ⟨(hx1_.trans hx2_),?_⟩
   have:t≠term0:=fun e=>c3 (by rw [e])
   simp [this]
 refine zaa zb3 ?_
 refine zac zhr (zaN hA2) hx2_ fun v27 h27=>?_
 have hln28:=zam h27
 refine zag u90 h27 ?_
 refine zaa zb3 ?_
 refine zac zhr (zaN hA3) (Ext.refl w2_) fun v30 h30=>?_
 have hln31:=zam h30
 refine zag u90 h30 ?_
 refine zaI ?_
 refine br (fun c4=>?_) (fun c4=>?_)
 · refine ⟨(hx1_.trans hx2_),?_⟩
   have:t≠term0:=fun e=>c4 (by rw [e])
   simp [this]
 refine zaq (0) (fun k us w'=>us=[.int .i64 (k:Int)]∧Ext w2_ w'∧(True)) (0) (by omega) ⟨by simp,Ext.refl w2_,trivial⟩ ?_
 rintro k m4 uu4 w3_ hk4 ⟨hu,hx3_,hinv⟩
 simp only [List.map_cons,List.map_nil,List.cons.injEq,and_true] at hu
 try rw [hu]
 try clear hu
 refine zaa zb3 ?_
 refine zac zhr (zaN hA2) (hx2_.trans hx3_) fun v36 h36=>?_
 have hln37:=zam h36
 refine zag u90 h36 ?_
 refine zah ?_
 refine br (fun c5=>?_) (fun c5=>?_)
 · have hx4_:=zak w3_
   exact absurd c5 (by have:(term0.kids.length:Int)=0:=rfl;omega)
 refine ⟨(hx1_.trans (hx2_.trans hx3_)),?_⟩
 have:t=term0:=DTerm.ext_iff.2 ⟨Decidable.not_not.1 c1,Decidable.not_not.1 c2,Decidable.not_not.1 c3,List.eq_nil_of_length_eq_zero (by have:(term0.kids.length:Int)=0:=rfl;omega)⟩
 simp [this]
def plc (s:ByteArray):List ByteArray→Int
 | []=>-1
 | x :: l=>if x=s then 0 else if plc s l<0 then -1 else plc s l+1
theorem znG {s:ByteArray} {l:List ByteArray} (h:s∉l):plc s l=-1:=by
 induction l with
 | nil=>rfl
 | cons x l ih=>
   simp only [List.mem_cons,not_or] at h
   rw [plc,if_neg (fun e=>h.1 e.symm),ih h.2];rfl
theorem zp1 {s:ByteArray}:∀ {l:List ByteArray} {k:Nat} (hk:k<l.length),s∉l.take k→l[k]=s→plc s l=k
 | x :: l,0,_,_,h=>by simp only [List.getElem_cons_zero] at h;rw [plc,if_pos h];rfl
 | x :: l,k+1,hk,hn,h=>by
   simp only [List.take_succ_cons,List.mem_cons,not_or] at hn
   have ih:=zp1 (by simpa using hk) hn.2 (by simpa using h)
   rw [plc,if_neg (fun e=>hn.1 e.symm),ih,if_neg (by omega)]
   omega
theorem zu3 {s:ByteArray} {l:List ByteArray}:-1≤plc s l∧plc s l<l.length:=by
 induction l with
 | nil=>simp [plc]
 | cons x l ih=>
   rw [plc]
   split
   · simp only [List.length_cons];omega
   split<;>simp only [List.length_cons]<;>omega
theorem ze2 {s:ByteArray} {l:List ByteArray}:0≤plc s l↔s∈l:=by
 induction l with
 | nil=>simp [plc]
 | cons x l ih=>
   rw [plc]
   split
   · rename_i h;simp [h]
   rename_i h
   rw [List.mem_cons,←ih]
   have:¬s=x:=fun e=>h e.symm
   simp only [this,false_or]
   split<;>omega
theorem zcX {l:List ByteArray} {k:Nat} {y:ByteArray} (hk:k<l.length) (h:y∉l.take k) (c:¬l[k]=y):y∉l.take (k+1):=by
 rw [List.take_succ_eq_append_getElem hk]
 simp only [List.mem_append,List.mem_cons,List.not_mem_nil,or_false,not_or]
 exact ⟨h,fun e=>c e.symm⟩
def F66 (a0 a1:Value) (w:World) (R:VW):Prop:=
 LOOPI [5] [(iV 0)] w fun u2 w next2=>
 rN 22 3 a0 w fun x8=>
 rC (u2 5) x8 w fun x9=>
 BR x9
 (rX 22 a0 (u2 5) w fun x14=>
 rL 9 x14 w fun x15=>
 rB .eql 9 T0 T0 x15 a1 w fun x17=>
 BR x17
 (R (u2 5) w)
 (rA (u2 5) (iV 1) w fun x11=>
 next2 [x11] w))
 (R (iV (-1)) w)
def cfg66:Cfg:=⟨extL,[],[(2,524272,[5])],[],[],[],[]⟩
theorem F66_call {a0 a1:Value} {w:World} {R:VW} (h:F66 a0 a1 w R):cL 66 [a0,a1] w R:=co (g:=cfg66) Tryz.func66 (by kernel_rfl) (by kernel_rfl) (by kernel_rfl) h
theorem zcY {w:World} {v0:Value} {W0:World} {l:(List ByteArray)} {s:ByteArray}  (h0:Is W0 v0 l) (e0:Ext W0 w)  :
   CALL Tryz.prog 66 [v0,.string s] w fun r w'=>Ext w w'∧(r=.int .i64 (plc s l)):=by
 refine F66_call ?_
 unfold F66
 refine zaq (l.length) (fun k us w'=>us=[.int .i64 (k:Int)]∧Ext w w'∧(s∉l.take k)) (0) (by omega) ⟨by simp,Ext.refl w,by simp⟩ ?_
 rintro k m2 uu2 w1_ hk2 ⟨hu,hx1_,hinv⟩
 simp only [List.map_cons,List.map_nil,List.cons.injEq,and_true] at hu
 try rw [hu]
 try clear hu
 have hln8:=zam h0
 refine zag u22 h0 ?_
 refine zah ?_
 refine br (fun c1=>?_) (fun c1=>?_)
 · refine zad u22 ty9 h0 (by omega) fun b14 o14 h14=>?_
   refine zaH ty9 h14 (e0.trans hx1_) fun hS15=>?_
   refine za4 ?_
   refine br (fun c2=>?_) (fun c2=>?_)
   · refine ⟨hx1_,?_⟩
     rw [zp1 (by omega) hinv c2]
   refine zaf (by omega) ?_
   refine ⟨m2-1,by omega,k+1,by omega,by simp,hx1_,?_⟩
   exact zcX (by omega) hinv c2
 refine ⟨hx1_,?_⟩
 rw [List.take_of_length_le (by omega)] at hinv
 rw [znG hinv]
def F144 (a0 a1:Value) (w:World) (R:VW):Prop:=
 rN 22 3 a0 w fun x7=>
 LOOPI [8] [(iV 0)] w fun u2 w next2=>
 rC (u2 8) x7 w fun x9=>
 BR x9
 (rX 22 a0 (u2 8) w fun x14=>
 rL 9 x14 w fun x15=>
 rB .eql 9 T0 T0 a1 x15 w fun x16=>
 BR x16
 (R (u2 8) w)
 (rA (u2 8) (iV 1) w fun x18=>
 next2 [x18] w))
 (R (iV (-1)) w)
def cfg144:Cfg:=⟨extL,[],[(2,524080,[8])],[],[],[],[]⟩
theorem F144_call {a0 a1:Value} {w:World} {R:VW} (h:F144 a0 a1 w R):cL 144 [a0,a1] w R:=co (g:=cfg144) Tryz.func144 (by kernel_rfl) (by kernel_rfl) (by kernel_rfl) h
theorem zif {w:World} {v0:Value} {W0:World} {l:(List ByteArray)} {s:ByteArray}  (h0:Is W0 v0 l) (e0:Ext W0 w)  :
   CALL Tryz.prog 144 [v0,.string s] w fun r w'=>Ext w w'∧(r=.int .i64 (plc s l)):=by
 refine F144_call ?_
 unfold F144
 have hln7:=zam h0
 refine zag u22 h0 ?_
 refine zaq (l.length) (fun k us w'=>us=[.int .i64 (k:Int)]∧Ext w w'∧(s∉l.take k)) (0) (by omega) ⟨by simp,Ext.refl w,by simp⟩ ?_
 rintro k m2 uu2 w1_ hk2 ⟨hu,hx1_,hinv⟩
 simp only [List.map_cons,List.map_nil,List.cons.injEq,and_true] at hu
 try rw [hu]
 try clear hu
 refine zah ?_
 refine br (fun c1=>?_) (fun c1=>?_)
 · refine zad u22 ty9 h0 (by omega) fun b14 o14 h14=>?_
   refine zaH ty9 h14 (e0.trans hx1_) fun hS15=>?_
   refine za4 ?_
   refine br (fun c2=>?_) (fun c2=>?_)
   · refine ⟨hx1_,?_⟩
     rw [zp1 (by omega) hinv c2.symm]
   refine zaf (by omega) ?_
   refine ⟨m2-1,by omega,k+1,by omega,by simp,hx1_,?_⟩
   exact zcX (by omega) hinv (fun e=>c2 e.symm)
 refine ⟨hx1_,?_⟩
 rw [List.take_of_length_le (by omega)] at hinv
 rw [znG hinv]
def F139 (a0 a1:Value) (w:World) (R:VW):Prop:=
 cL 144 [a0,a1] w fun x7 w=>
 rB .geq 3 T0 U0 x7 (iV 0) w fun x8=>
 R x8 w
def cfg139:Cfg:=⟨extL,[],[],[],[],[],[]⟩
theorem F139_call {a0 a1:Value} {w:World} {R:VW} (h:F139 a0 a1 w R):cL 139 [a0,a1] w R:=co (g:=cfg139) Tryz.func139 (by kernel_rfl) (by kernel_rfl) (by kernel_rfl) h
theorem zb6 {w:World} {v0:Value} {W0:World} {l:(List ByteArray)} {s:ByteArray}  (h0:Is W0 v0 l) (e0:Ext W0 w)  :
   CALL Tryz.prog 139 [v0,.string s] w fun r w'=>Ext w w'∧(r=.bool (decide (s∈l))):=by
 refine F139_call ?_
 unfold F139
 refine (zif h0 e0).mono ?_
 rintro _ w1_ ⟨hx1_,rfl⟩
 refine zb9 ?_
 refine ⟨hx1_,?_⟩
 simp [ze2]
def F118 (a0 a1:Value) (w:World) (R:VW):Prop:=
 LOOPI [5] [(iV 0)] w fun u2 w next2=>
 rN 22 3 a0 w fun x8=>
 rC (u2 5) x8 w fun x9=>
 BR x9
 (rX 22 a0 (u2 5) w fun x14=>
 rL 9 x14 w fun x15=>
 rB .eql 9 T0 T0 x15 a1 w fun x17=>
 BR x17
 (R (Value.bool true) w)
 (rA (u2 5) (iV 1) w fun x11=>
 next2 [x11] w))
 (R (Value.bool false) w)
def cfg118:Cfg:=⟨extL,[],[(2,262128,[5])],[],[],[],[]⟩
theorem F118_call {a0 a1:Value} {w:World} {R:VW} (h:F118 a0 a1 w R):cL 118 [a0,a1] w R:=co (g:=cfg118) Tryz.func118 (by kernel_rfl) (by kernel_rfl) (by kernel_rfl) h
theorem zlp {w:World} {v0:Value} {W0:World} {l:(List ByteArray)} {s:ByteArray}  (h0:Is W0 v0 l) (e0:Ext W0 w)  :
   CALL Tryz.prog 118 [v0,.string s] w fun r w'=>Ext w w'∧(r=.bool (decide (s∈l))):=by
 refine F118_call ?_
 unfold F118
 refine zaq (l.length) (fun k us w'=>us=[.int .i64 (k:Int)]∧Ext w w'∧(s∉l.take k)) (0) (by omega) ⟨by simp,Ext.refl w,by simp⟩ ?_
 rintro k m2 uu2 w1_ hk2 ⟨hu,hx1_,hinv⟩
 simp only [List.map_cons,List.map_nil,List.cons.injEq,and_true] at hu
 try rw [hu]
 try clear hu
 have hln8:=zam h0
 refine zag u22 h0 ?_
 refine zah ?_
 refine br (fun c1=>?_) (fun c1=>?_)
 · refine zad u22 ty9 h0 (by omega) fun b14 o14 h14=>?_
   refine zaH ty9 h14 (e0.trans hx1_) fun hS15=>?_
   refine za4 ?_
   refine br (fun c2=>?_) (fun c2=>?_)
   · refine ⟨hx1_,?_⟩
     have:s∈l:=c2▸List.getElem_mem _
     simp [this]
   refine zaf (by omega) ?_
   refine ⟨m2-1,by omega,k+1,by omega,by simp,hx1_,?_⟩
   exact zcX (by omega) hinv c2
 refine ⟨hx1_,?_⟩
 rw [List.take_of_length_le (by omega)] at hinv
 simp [hinv]
def F137 (a0 a1:Value) (w:World) (R:VW):Prop:=
 rN 22 3 a0 w fun x8=>
 rB .gtr 3 T0 T0 x8 a1 w fun x10=>
 BR x10
 (R (Value.bool false) w)
 (rN 22 3 a0 w fun x12=>
 LOOPI [13] [(iV 0)] w fun u4 w next4=>
 rC (u4 13) x12 w fun x14=>
 BR x14
 (rX 22 a0 (u4 13) w fun x15=>
 rL 9 x15 w fun x16=>
 cL 176 [x16] w fun x18 w=>
 rD (Op.unary .not x18) w fun x19=>
 BR x19
 (R (Value.bool false) w)
 (rA (u4 13) (iV 1) w fun x20=>
 next4 [x20] w))
 (R (Value.bool true) w))
def cfg137:Cfg:=⟨extL,[],[(4,2089040,[13])],[],[],[],[]⟩
theorem F137_call {a0 a1:Value} {w:World} {R:VW} (h:F137 a0 a1 w R):cL 137 [a0,a1] w R:=co (g:=cfg137) Tryz.func137 (by kernel_rfl) (by kernel_rfl) (by kernel_rfl) h
theorem zfT {w:World} {v0:Value} {W0:World} {l:(List ByteArray)} {m:Int}  (h0:Is W0 v0 l) (e0:Ext W0 w)  :
   CALL Tryz.prog 137 [v0,.int .i64 m] w fun r w'=>Ext w w'∧(r=.bool (decide ((l.length:Int)≤m)&&l.all zbx)):=by
 refine F137_call ?_
 unfold F137
 have hln8:=zam h0
 refine zag u22 h0 ?_
 refine zcQ ?_
 refine br (fun c1=>?_) (fun c1=>?_)
 · refine ⟨Ext.refl w,?_⟩
   simp [show ¬(l.length:Int)≤m by omega]
 have hln12:=zam h0
 refine zag u22 h0 ?_
 refine zaq (l.length) (fun k us w'=>us=[.int .i64 (k:Int)]∧Ext w w'∧((l.take k).all zbx=true)) (0) (by omega) ⟨by simp,Ext.refl w,by simp⟩ ?_
 rintro k m4 uu4 w1_ hk4 ⟨hu,hx1_,hinv⟩
 simp only [List.map_cons,List.map_nil,List.cons.injEq,and_true] at hu
 try rw [hu]
 try clear hu
 refine zah ?_
 refine br (fun c2=>?_) (fun c2=>?_)
 · refine zad u22 ty9 h0 (by omega) fun b15 o15 h15=>?_
   refine zaH ty9 h15 (e0.trans hx1_) fun hS16=>?_
   refine (zgo ).mono ?_
   rintro _ w2_ ⟨hx2_,rfl⟩
   refine zaV ?_
   refine zbw (fun c3=>?_) (fun c3=>?_)
   · refine ⟨(hx1_.trans hx2_),?_⟩
     simp only [zgp (p:=zbx) (l:=l) (k:=k) (by omega) (by simpa using c3),Bool.and_false]
   have hln:=zam h0
   refine zaf (by omega) ?_
   refine ⟨m4-1,by omega,k+1,by omega,by simp,(hx1_.trans hx2_),?_⟩
   exact zhA (by omega) hinv (by simpa using c3)
 refine ⟨hx1_,?_⟩
 simp [zhB (p:=zbx) (l:=l) (by omega) hinv,show (l.length:Int)≤m by omega]
def F64 (a0 a1:Value) (w:World) (R:VW):Prop:=
 rN 22 3 a0 w fun x7=>
 rB .gtr 3 T0 T0 x7 a1 w fun x9=>
 BR x9
 (R (Value.bool false) w)
 (LOOPI [5] [(iV 0)] w fun u4 w next4=>
 rN 22 3 a0 w fun x12=>
 rC (u4 5) x12 w fun x13=>
 BR x13
 (rX 22 a0 (u4 5) w fun x18=>
 rL 9 x18 w fun x19=>
 cL 117 [x19] w fun x20 w=>
 rD (Op.unary .not x20) w fun x21=>
 BR x21
 (R (Value.bool false) w)
 (rA (u4 5) (iV 1) w fun x15=>
 next4 [x15] w))
 (R (Value.bool true) w))
def cfg64:Cfg:=⟨extL,[],[(4,4193328,[5])],[],[],[],[]⟩
theorem F64_call {a0 a1:Value} {w:World} {R:VW} (h:F64 a0 a1 w R):cL 64 [a0,a1] w R:=co (g:=cfg64) Tryz.func64 (by kernel_rfl) (by kernel_rfl) (by kernel_rfl) h
theorem zfU {w:World} {v0:Value} {W0:World} {l:(List ByteArray)} {m:Int}  (h0:Is W0 v0 l) (e0:Ext W0 w)  :
   CALL Tryz.prog 64 [v0,.int .i64 m] w fun r w'=>Ext w w'∧(r=.bool (decide ((l.length:Int)≤m)&&l.all zbx)):=by
 refine F64_call ?_
 unfold F64
 have hln7:=zam h0
 refine zag u22 h0 ?_
 refine zcQ ?_
 refine br (fun c1=>?_) (fun c1=>?_)
 · refine ⟨Ext.refl w,?_⟩
   simp [show ¬(l.length:Int)≤m by omega]
 refine zaq (l.length) (fun k us w'=>us=[.int .i64 (k:Int)]∧Ext w w'∧((l.take k).all zbx=true)) (0) (by omega) ⟨by simp,Ext.refl w,by simp⟩ ?_
 rintro k m4 uu4 w1_ hk4 ⟨hu,hx1_,hinv⟩
 simp only [List.map_cons,List.map_nil,List.cons.injEq,and_true] at hu
 try rw [hu]
 try clear hu
 have hln12:=zam h0
 refine zag u22 h0 ?_
 refine zah ?_
 refine br (fun c2=>?_) (fun c2=>?_)
 · refine zad u22 ty9 h0 (by omega) fun b18 o18 h18=>?_
   refine zaH ty9 h18 (e0.trans hx1_) fun hS19=>?_
   refine (zgn ).mono ?_
   rintro _ w2_ ⟨hx2_,rfl⟩
   refine zaV ?_
   refine zbw (fun c3=>?_) (fun c3=>?_)
   · refine ⟨(hx1_.trans hx2_),?_⟩
     simp only [zgp (p:=zbx) (l:=l) (k:=k) (by omega) (by simpa using c3),Bool.and_false]
   refine zaf (by omega) ?_
   refine ⟨m4-1,by omega,k+1,by omega,by simp,(hx1_.trans hx2_),?_⟩
   exact zhA (by omega) hinv (by simpa using c3)
 refine ⟨hx1_,?_⟩
 simp [zhB (p:=zbx) (l:=l) (by omega) hinv,show (l.length:Int)≤m by omega]
instance decNodup:∀ (l:List ByteArray),Decidable l.Nodup
 | []=>isTrue List.nodup_nil
 | x :: l=>match decMemBA x l,decNodup l with
   | isFalse h,isTrue h'=>isTrue (List.nodup_cons.2 ⟨h,h'⟩)
   | isTrue h,_=>isFalse fun e=>(List.nodup_cons.1 e).1 h
   | _,isFalse h=>isFalse fun e=>h (List.nodup_cons.1 e).2
theorem zu4 {l:List ByteArray} {k:Nat} (hk:k<l.length) (h:l[k]∈l.drop (k+1)):¬l.Nodup:=fun hn=>by
 have e:l=l.take k++(l[k] :: l.drop (k+1)):=by simp
 rw [e,List.nodup_append] at hn
 exact (List.nodup_cons.1 hn.2.1).1 h
theorem ztS {l:List ByteArray} {k:Nat} (hk:k<l.length) (h:l[k]∈l.take k):¬l.Nodup:=fun hn=>by
 have e:l=l.take k++(l[k] :: l.drop (k+1)):=by simp
 rw [e,List.nodup_append] at hn
 exact hn.2.2 _ h _ List.mem_cons_self rfl
theorem zig {l:List ByteArray} {k:Nat} (hk:k<l.length) (h:(l.take k).Nodup) (c:l[k]∉l.take k):(l.take (k+1)).Nodup:=by
 rw [List.take_succ_eq_append_getElem hk,List.nodup_append]
 refine ⟨h,by simp,fun a ha b hb e=>?_⟩
 simp only [List.mem_cons,List.not_mem_nil,or_false] at hb
 subst e;subst hb
 exact c ha
theorem zfK:∀ {l:List ByteArray},(∀ (k:Nat) (hk:k<l.length),l[k]∉l.drop (k+1))→l.Nodup
 | [],_=>List.nodup_nil
 | x :: l,h=>List.nodup_cons.2 ⟨h 0 (by simp),zfK fun k hk=>h (k+1) (by simpa using hk)⟩
def F138 (a0:Value) (w:World) (R:VW):Prop:=
 rN 22 3 a0 w fun x6=>
 LOOPI [7] [(iV 0)] w fun u2 w next2=>
 rC (u2 7) x6 w fun x8=>
 BR x8
 (rX 22 a0 (u2 7) w fun x10=>
 rL 9 x10 w fun x11=>
 rA (u2 7) (iV 1) w fun x14=>
 rD (Instr.sliceAt 22 a0 (some x14) none none) w fun x15=>
 cL 139 [x15,x11] w fun x17 w=>
 BR x17
 (R (Value.bool true) w)
 (rA (u2 7) (iV 1) w fun x18=>
 next2 [x18] w))
 (R (Value.bool false) w)
def cfg138:Cfg:=⟨extL,[],[(2,524188,[7])],[],[],[],[]⟩
theorem F138_call {a0:Value} {w:World} {R:VW} (h:F138 a0 w R):cL 138 [a0] w R:=co (g:=cfg138) Tryz.func138 (by kernel_rfl) (by kernel_rfl) (by kernel_rfl) h
theorem zfV {w:World} {v0:Value} {W0:World} {l:(List ByteArray)}  (h0:Is W0 v0 l) (e0:Ext W0 w)  :
   CALL Tryz.prog 138 [v0] w fun r w'=>Ext w w'∧(r=.bool (decide (¬l.Nodup))):=by
 refine F138_call ?_
 unfold F138
 have hln6:=zam h0
 refine zag u22 h0 ?_
 refine zaq (l.length) (fun k us w'=>us=[.int .i64 (k:Int)]∧Ext w w'∧(∀ (j:Nat) (hj:j<l.length),j<k→l[j]∉l.drop (j+1))) (0) (by omega) ⟨by simp,Ext.refl w,fun j hj h=>by omega⟩ ?_
 rintro k m2 uu2 w1_ hk2 ⟨hu,hx1_,hinv⟩
 simp only [List.map_cons,List.map_nil,List.cons.injEq,and_true] at hu
 try rw [hu]
 try clear hu
 have hln:=zam h0
 refine zah ?_
 refine br (fun c1=>?_) (fun c1=>?_)
 · refine zad u22 ty9 h0 (by omega) fun b10 o10 h10=>?_
   refine zaH ty9 h10 (e0.trans hx1_) fun hS11=>?_
   refine zaf (by omega) ?_
   refine zev u22 ty9 h0 (by omega) (by omega) fun v15 h15=>?_
   refine (zb6 h15 (e0.trans hx1_)).mono ?_
   rintro _ w2_ ⟨hx2_,rfl⟩
   refine br (fun c2=>?_) (fun c2=>?_)
   · refine ⟨(hx1_.trans hx2_),?_⟩
     simp [zu4 (by omega) c2]
   refine zaf (by omega) ?_
   refine ⟨m2-1,by omega,k+1,by omega,by simp,(hx1_.trans hx2_),?_⟩
   intro j hj hjk
   by_cases h:j=k
   · subst h;exact c2
   exact hinv j hj (by omega)
 refine ⟨hx1_,?_⟩
 simp [zfK fun j hj=>hinv j hj (by omega)]
def F65 (a0:Value) (w:World) (R:VW):Prop:=
 LOOPI [3] [(iV 0)] w fun u2 w next2=>
 rN 22 3 a0 w fun x6=>
 rC (u2 3) x6 w fun x7=>
 BR x7
 ((fun w=>rD (Instr.sliceAt 22 a0 none (some (u2 3)) none) w fun x12=>
 rX 22 a0 (u2 3) w fun x15=>
 rL 9 x15 w fun x16=>
 cL 118 [x12,x16] w fun x17 w=>
 BR x17
 (R (Value.bool true) w)
 (rA (u2 3) (iV 1) w fun x9=>
 next2 [x9] w)) (World.drew1 w))
 (R (Value.bool false) w)
def cfg65:Cfg:=⟨extL,[],[(2,262140,[3])],[(4,[0,1,2,3,4,5,6,7],0)],[],[],[]⟩
theorem F65_call {a0:Value} {w:World} {R:VW} (h:F65 a0 w R):cL 65 [a0] w R:=co (g:=cfg65) Tryz.func65 (by kernel_rfl) (by kernel_rfl) (by kernel_rfl) h
theorem zfW {w:World} {v0:Value} {W0:World} {l:(List ByteArray)}  (h0:Is W0 v0 l) (e0:Ext W0 w)  :
   CALL Tryz.prog 65 [v0] w fun r w'=>Ext w w'∧(r=.bool (decide (¬l.Nodup))):=by
 refine F65_call ?_
 unfold F65
 refine zaq (l.length) (fun k us w'=>us=[.int .i64 (k:Int)]∧Ext w w'∧((l.take k).Nodup)) (0) (by omega) ⟨by simp,Ext.refl w,by simp⟩ ?_
 rintro k m2 uu2 w1_ hk2 ⟨hu,hx1_,hinv⟩
 simp only [List.map_cons,List.map_nil,List.cons.injEq,and_true] at hu
 try rw [hu]
 try clear hu
 have hln:=zam h0
 have hln6:=zam h0
 refine zag u22 h0 ?_
 refine zah ?_
 refine br (fun c1=>?_) (fun c1=>?_)
 · have hx2_:=zak w1_
   refine zhW u22 ty9 h0 (by omega) (by omega) fun v12 h12=>?_
   refine zad u22 ty9 h0 (by omega) fun b15 o15 h15=>?_
   refine zaH ty9 h15 (e0.trans (hx1_.trans hx2_)) fun hS16=>?_
   refine (zlp h12 (e0.trans (hx1_.trans hx2_))).mono ?_
   rintro _ w3_ ⟨hx3_,rfl⟩
   refine br (fun c2=>?_) (fun c2=>?_)
   · refine ⟨(hx1_.trans (hx2_.trans hx3_)),?_⟩
     simp [ztS (by omega) c2]
   refine zaf (by omega) ?_
   refine ⟨m2-1,by omega,k+1,by omega,by simp,(hx1_.trans (hx2_.trans hx3_)),?_⟩
   exact zig (by omega) hinv c2
 refine ⟨hx1_,?_⟩
 rw [List.take_of_length_le (by omega)] at hinv
 simp [hinv]
end Go.Proofs.YtbnjpfjjmhodnaaGreatDoor
