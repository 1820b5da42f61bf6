/-
  Addresses sorted as the document has it; reckoned.
-/
import Derived.Test.YtgdjkkapgghdbaaGreatDoorYe
import Derived.Test.YtgdjkkapgghdbaaGreatDoorRll
import Derived.Test.YtgdjkkapgghdbaaGreatDoorAvAr
import Derived.Test.YtgdjkkapgghdbaaGreatDoorTrh
import Derived.Test.YtgdjkkapgghdbaaGreatDoorAvO
namespace Go.Proofs.YtgdjkkapgghdbaaGreatDoor
set_option linter.unusedSimpArgs false
set_option linter.unusedVariables false
section
open Go.RowKit
theorem X4j{w:World}{l:Nat}{o o':Obj}:(w.putObj l o).putObj l o'=w.putObj l o':=by
 show({w with heap:=_}:World)=_
 simp[World.putObj]
abbrev recD(ps:Array Tmp)(assign body:Code)(f:FuncId)(t:Array Value)(D:Nat):Loop:={Q1v ps assign body f t D with state:=.done,pending:=some .ret}
def Stop(t:Tmp)(assign body:Code)(l:Nat)(E E2:Env):Prop:=
 ∃f ts D,E.w.heap[l]? = some (.loop (Q1v #[t] assign body f ts D))∧∃hG,E2={E with w:=E.w.putObj l (.loop (recD #[t] assign body f ts D)),hG:=hG}
def YZ(P:Program)(t:Tmp)(assign body:Code)(T0:List AV)(l:Nat)(x:AV)(H0 H1:List (Nat×List AV)):Prop:=
 ∀(E:Env) (v:Value) (f:FuncId) (ts:Array Value) (D:Nat),E.D=H0.map (·.1)→(∀r cs b,hget H0 r=some cs→(E.ι r).2.1≠0→E.S b→(E.ι r).1≠b)→ConcH E.S E.ι H0 E.w→RV E.S E.ι E.w v x →
  E.w.heap[l]? = some (.loop (Q1v #[t] assign body f ts D))→ts.size=T0.length→(∀i,RV E.S E.ι E.w (ts.getD i undef) (T0.getD i .any)) →
  RoundIn Fence.wide 0 P l f (ts.setIfInBounds t v) assign body E.w fun e w'=>∃E2 v ι',Stop t assign body l E E2∧e = .returned v∧RV (Sx E2 ι' H1) ι' w' v (.c (.v (.bool false)))∧ConcH (Sx E2 ι' H1) ι' H1 w'∧Keep E2 ι' H1 w'
theorem yz_of{P:Program}{t:Tmp}{assign body:Code}{T0:List AV}{l:Nat}{x:AV}{H0 H1:List (Nat×List AV)}(hA:Q4o assign=true)(hB:Q4o body=true)
 (h:evC P assign ⟨T0.set t x,H0⟩ fun ex σ1=>ex = .normal∧evC P body σ1 fun ex σ2=>ex = .ret∧∀r cs,hget H1 r=some cs→hget σ2.H r=some cs):YZ P t assign body T0 l x H0 H1:=by
 intro E v f ts D hED hS hH hv hl hsz hts
 have hlt:=(Array.getElem?_eq_some_iff.1 hl).1
 have hne:∀r∈E.D,(E.ι r).2.1≠0→(E.ι r).1≠l:=by rw[hED];exact Q6e hH hl rfl
 have hv':RV (Sx E E.ι H0) E.ι E.w v x:=hv.mono (fun b hb _=>⟨⟨.inl hb,fun r cs hr hz=>hS r cs b hr hz hb⟩,rfl⟩) fun _ _=>rfl
 have hc0:=(Conc.begin E hED hS hH hsz hts).put (some t) hv'
 refine roundIn_of_wpIn trivial ?_
 refine wpIn_mono (Q8l (ro:=some l) assign hA _ _ h E E.ι _ E.w hc0) ?_
 rintro ex a1 w1 ⟨ι1,σ1,hc1,rfl,h2⟩
 have hl1:w1.heap[l]? = some (.loop (Q1v #[t] assign body f ts D)):=(hc1.keep.block l hlt hne).trans hl
 refine⟨_,run_beginRound hl1 rfl,?_⟩
 have hc2:=hc1.rebase (.loop {Q1v #[t] assign body f ts D with state:=.busy}) hl hl1 rfl
 refine wpIn_mono (Q8l (ro:=some l) body hB _ _ h2 _ ι1 _ _ hc2) ?_
 rintro ex a2 w3 ⟨ι2,σ2,hc3,rfl,h3⟩
 have hlb:(E.w.putObj l (.loop {Q1v #[t] assign body f ts D with state:=.busy})).heap[l]? = some (.loop {Q1v #[t] assign body f ts D with state:=.busy}):=World.putObj_heap_same hlt
 have hl3:w3.heap[l]? = some (.loop {Q1v #[t] assign body f ts D with state:=.busy}):=(hc3.keep.block l (by simpa using hlt) hne).trans hlb
 refine⟨_,_,run_endRound (some .ret) hl3,?_⟩
 have hc4:=hc3.rebase (.loop (recD #[t] assign body f ts D)) hlb hl3 rfl
 have key:∀(w':World) (hG':GlobOK w' E.S E.ι E.D),w'=E.w.putObj l (.loop (recD #[t] assign body f ts D))→Conc {E with w:=w',hG:=hG'} ι2 σ2 a2 (w3.putObj l (.loop (recD #[t] assign body f ts D)))→∃hG,Conc {E with w:=E.w.putObj l (.loop (recD #[t] assign body f ts D)),hG:=hG} ι2 σ2 a2 (w3.putObj l (.loop (recD #[t] assign body f ts D))):=by
  rintro _ hG rfl h;exact⟨hG,h⟩
 obtain⟨hG,hc5⟩:=key _ _ X4j hc4
 have hc6:=hc5.leH h3
 exact⟨_,_,ι2,⟨f,ts,D,hl,hG,rfl⟩,rfl,.c _ _ (.v _ rfl),hc6.heap,hc6.keep⟩
def AWZ(p:Env→Prop)(Z:Env→Env→Prop)(P:Program)(c:Code)(σ : St)(Φ Φ2:Exit→St→Prop):Prop:=
 ∀(E:Env) (ι : Nat→Nat×Nat×Nat) (a:Act) (w:World),p E→Conc E ι σ a w→c.wp P (fun ex a' w'=>(∃ι' σ',Conc E ι' σ' a' w'∧Φ ex σ')∨∃E2 ι' σ',Z E E2∧Conc E2 ι' σ' a' w'∧Φ2 ex σ') a w
section
variable {p:Env→Prop} {Z:Env→Env→Prop} {P:Program} {σ : St} {Φ Φ2:Exit→St→Prop}
theorem AWZ.of{c:Code}(h:AWE p P c σ Φ):AWZ p Z P c σ Φ Φ2:=fun E ι a w hp hc=>wp_mono (h E ι a w hp hc) fun _ _ _ h=>.inl h
theorem AWZ.to{c:Code}{τ : St}(ht:σ.to τ)(h:AWZ p Z P c τ Φ Φ2):AWZ p Z P c σ Φ Φ2:=fun E ι a w hp hc=>by
 obtain⟨ι',hc'⟩:=ht E ι a w hc
 exact h E ι' a w hp hc'
theorem AWZ.seq{x y:Code}(h:AWZ p Z P x σ (fun ex σ'=>match ex with | .normal=>AWZ p Z P y σ' Φ Φ2|ex=>Φ ex σ') (fun ex σ'=>match ex with | .normal=>evC P y σ' Φ2|ex=>Φ2 ex σ')):AWZ p Z P (.seq x y) σ Φ Φ2:=fun E ι a w hp hc=>by
 refine wp_seq (wp_mono (h E ι a w hp hc) fun ex a' w'=>?_)
 rintro (⟨ι',σ',hc',hΦ⟩|⟨E2,ι',σ',hz,hc',hΦ⟩)
 · cases ex with
   |normal=>exact hΦ E ι' a' w' hp hc'
   |_=>exact .inl ⟨ι',σ',hc',hΦ⟩
 · cases ex with
   |normal=>exact wp_mono (Q2u y σ' Φ2 hΦ E2 ι' a' w' hc') fun ex a2 w2 ⟨ι2,σ2,h2,h3⟩=>.inr ⟨E2,ι2,σ2,hz,h2,h3⟩
   |_=>exact .inr ⟨E2,ι',σ',hz,hc',hΦ⟩
theorem AWZ.seq1{x y:Code}(h:AWE p P x σ (fun ex σ'=>match ex with | .normal=>AWZ p Z P y σ' Φ Φ2|ex=>Φ ex σ')):AWZ p Z P (.seq x y) σ Φ Φ2:=.seq (.of h)
theorem AWZ.block{id:Nat}{c:Code}(h:AWZ p Z P c σ (fun ex σ'=>match ex with | .exit j=>if j=id then Φ .normal σ' else Φ (.exit j) σ'|ex=>Φ ex σ') (fun ex σ'=>match ex with | .exit j=>if j=id then Φ2 .normal σ' else Φ2 (.exit j) σ'|ex=>Φ2 ex σ')):AWZ p Z P (.block id c) σ Φ Φ2:=fun E ι a w hp hc=>by
 refine wp_block (wp_mono (h E ι a w hp hc) fun ex a' w'=>?_)
 rintro (⟨ι',σ',hc',hΦ⟩|⟨E2,ι',σ',hz,hc',hΦ⟩)
 · cases ex with
   |exit j=>
    unfold Exit.inBlock
    simp only at hΦ ⊢
    split at hΦ
    · rename_i e;rw[if_pos e];exact .inl ⟨ι',σ',hc',hΦ⟩
    · rename_i e;rw[if_neg e];exact .inl ⟨ι',σ',hc',hΦ⟩
   |_=>exact .inl ⟨ι',σ',hc',hΦ⟩
 · cases ex with
   |exit j=>
    unfold Exit.inBlock
    simp only at hΦ ⊢
    split at hΦ
    · rename_i e;rw[if_pos e];exact .inr ⟨E2,ι',σ',hz,hc',hΦ⟩
    · rename_i e;rw[if_neg e];exact .inr ⟨E2,ι',σ',hz,hc',hΦ⟩
   |_=>exact .inr ⟨E2,ι',σ',hz,hc',hΦ⟩
theorem AWZ.loop{c:Code}{α : Type}(I:α→St)(μ : α→Nat)(x0:α)(h0:σ.to (I x0))
 (round:∀x,AWZ p Z P c (I x) (fun ex σ'=>match ex with | .normal=>∃y,μ y < μ x∧σ'.to (I y)|ex=>Φ ex σ') (fun ex σ'=>match ex with | .normal=>False|ex=>Φ2 ex σ')):AWZ p Z P (.loop c) σ Φ Φ2:=by
 intro E ι a w hp hc b k cs
 have key:∀n x ι a w,μ x=n→Conc E ι (I x) a w→∃e a' w',((∃ι' σ',Conc E ι' σ' a' w'∧Φ e σ')∨∃E2 ι' σ',Z E E2∧Conc E2 ι' σ' a' w'∧Φ2 e σ')∧Arrives P (lone (b.at a (.code c :: .inLoop c::k)) cs w) b k cs e a' w':=by
  intro n
  induction n using Nat.strongRecOn with
  |_ n ih=>
   intro x ι a w hn hI
   obtain⟨e,a₁,w₁,hor,harr⟩:=round x E ι a w hp hI b (.inLoop c::k) cs
   cases e with
   |normal=>
    rcases hor with⟨ι₁,σ₁,hc₁,y,hlt,hle⟩|⟨_,_,_,_,_,h⟩
    · obtain⟨ι2,hc2⟩:=hle E ι₁ a₁ w₁ hc₁
      obtain⟨e₂,a₂,w₂,hq₂,harr₂⟩:=ih (μ y) (hn▸hlt) y ι2 a₁ w₁ rfl hc2
      exact⟨e₂,a₂,w₂,hq₂,.of_steps (Steps.trans harr (.one step_inLoop)) harr₂⟩
    · exact h.elim
   |exit id=>exact⟨_,a₁,w₁,hor,.pass (x:=.inLoop c) rfl (fun _ _=>.inl (by simp)) harr⟩
   |goto l=>exact⟨_,a₁,w₁,hor,.pass (x:=.inLoop c) rfl (fun _ _=>.inl (by simp)) harr⟩
   |ret=>exact⟨_,a₁,w₁,hor,.pass (x:=.inLoop c) rfl (fun _ _=>.inl (by simp)) harr⟩
   |panic ch=>exact⟨_,a₁,w₁,hor,.pass (x:=.inLoop c) rfl (fun _ _=>.inl (by simp)) harr⟩
   |outgrown=>exact⟨_,a₁,w₁,hor,.pass (x:=.inLoop c) rfl (fun _ _=>.inl (by simp)) harr⟩
 obtain⟨ι0,hc0⟩:=h0 E ι a w hc
 obtain⟨e,a',w',hq,harr⟩:=key _ x0 ι0 a w rfl hc0
 exact⟨e,a',w',hq,.of_steps (.one step_loop) harr⟩
end
def OpZ(p:Env→Prop)(Z:Env→Env→Prop)(P:Program)(o:Oper)(σ : St)(K:St→Prop):Prop:=
 ∀(E:Env) (ι : Nat→Nat×Nat×Nat) (a:Act) (w:World),p E→Conc E ι σ a w→∀(K':Act→World→Prop) (Q:Exit→Act→World→Prop),(∀E2 ι' σ' a' w',Z E E2→K σ'→Conc E2 ι' σ' a' w'→K' a' w')→o.wpIn Fence.wide 0 P a w K' Q
theorem AWZ.region{p:Env→Prop}{Z:Env→Env→Prop}{P:Program}{σ : St}{Φ Φ2:Exit→St→Prop}{id:Nat}{ops:Array Oper}(l1:List Oper)(o:Oper)(l2:List Oper)(hops:ops.toList=l1++o::l2)(n1:l1.all opNd=true)(n2:l2.all opNd=true)
 (h:evL P ops l1 σ fun σ1=>(o.guard=none∨∃j want d,o.guard=some (j,want)∧(ops[j]?).bind (·.dst)=some d∧σ1.T.getD d .any = .c (.v (.bool want)))∧OpZ p Z P o σ1 fun σ2=>evL P ops l2 σ2 (Φ2 .normal)):AWZ p Z P (.region id ops false) σ Φ Φ2:=by
 intro E ι a w hp hc
 refine(wpIn_wide (n:=0)).1 (wpIn_region_list ?_)
 rw[hops]
 refine X2u (ro:=none) l1 n1 σ h E ι a w hc fun ι1 σ1 a1 w1=>?_
 rintro ⟨hg,hop⟩ hc1
 refine wpListIn_step fun K hK=>?_
 have hw:Region.wanted o (yielded ops a1.tmps)=true:=by
  rcases hg with hg|⟨j,want,d,hg,hd,hb⟩
  · simp only[Region.wanted,hg]
  · have hv:=hc1.tmp d
    rw[hb] at hv
    obtain⟨e,_⟩:=hv.v_inv
    have hlt:d<a1.tmps.size:=by
     rw[hc1.size]
     rcases Nat.lt_or_ge d σ1.T.length with h|h
     · exact h
     · rw[List.getD_eq_getElem?_getD,List.getElem?_eq_none h] at hb;cases hb
    have hy:yielded ops a1.tmps j=some want:=by
     unfold yielded
     rw[hd]
     simp only[Option.bind_some]
     have:a1.tmps[d]? = some (.bool want):=by
      rw[Array.getElem?_eq_getElem hlt]
      simp only[Array.getD,hlt,dif_pos] at e
      simpa using e
     rw[this]
    unfold Region.wanted
    rw[hg]
    simp only[hy,beq_self_eq_true]
 rw[hw,if_pos rfl]
 refine hop E ι1 a1 w1 hp hc1 K _ fun E2 ι2 σ2 a2 w2 hz hk hc2=>hK _ _ ?_
 have:=X2u (ro:=none) (Q:=fun ex a' w'=>(∃ι' σ',Conc E ι' σ' a' w'∧Φ ex σ')∨∃E2 ι' σ',Z E E2∧Conc E2 ι' σ' a' w'∧Φ2 ex σ') (more:=[]) l2 n2 σ2 hk E2 ι2 a2 w2 hc2 fun ι' σ' a' w' hk hc'=>wpListIn_nil (.inr ⟨E2,ι',σ',hz,hc',hk⟩)
 rwa [List.append_nil] at this
theorem AWZ.region_at{p:Env→Prop}{Z:Env→Env→Prop}{P:Program}{σ : St}{Φ Φ2:Exit→St→Prop}{id:Nat}{ops:Array Oper}(k:Nat){o:Oper}(hk:ops.toList[k]? = some o)(n0:ops.toList.all (fun x=>opNd x)=true)
 (h:∀R:St→Prop,(∀σ1,((o.guard=none∨∃j want d,o.guard=some (j,want)∧(ops[j]?).bind (·.dst)=some d∧σ1.T.getD d .any = .c (.v (.bool want)))∧OpZ p Z P o σ1 fun σ2=>∀R2:St→Prop,(∀σ',Φ2 .normal σ'→R2 σ')→evL P ops (ops.toList.drop (k+1)) σ2 R2)→R σ1)→evL P ops (ops.toList.take k) σ R):AWZ p Z P (.region id ops false) σ Φ Φ2:=by
 obtain⟨hlt,rfl⟩:=List.getElem?_eq_some_iff.1 hk
 have n0':=List.all_eq_true.1 n0
 refine AWZ.region (ops.toList.take k) ops.toList[k] (ops.toList.drop (k+1)) (by rw[←List.drop_eq_getElem_cons hlt,List.take_append_drop]) (List.all_eq_true.2 fun x hx=>n0' x (List.mem_of_mem_take hx)) (List.all_eq_true.2 fun x hx=>n0' x (List.mem_of_mem_drop hx)) ?_
 refine h _ fun σ1 ⟨h1,h2⟩=>⟨h1,fun E ι a w hp hc K' Q hK'=>h2 E ι a w hp hc K' Q fun E2 ι' σ' a' w' hz hk hc'=>hK' E2 ι' σ' a' w' hz (hk _ fun _ h=>h) hc'⟩
theorem opZ_yield{P:Program}{o:Oper}{σ : St}{K:St→Prop}{t:Tmp}{assign body:Code}{T0:List AV}{DD:List Nat}{l:Nat}{x:AV}{H0 H1:List (Nat×List AV)}(hY:YZ P t assign body T0 l x H0 H1)(ρ : Nat→Nat)
 {fo ao:Operand} {ts:Array TypeId} (ho:o.op = .call {callee:=.value fo,args:=#[ao],argTypes:=ts}) (hfo:Q0k fo=true) (hao:Q0k ao=true) (hf:σ.ev fo = .c (.v (.func (.yield l) #[] #[]))) (hx:Q1x ρ x (σ.ev ao))
 (hD0:H0.all (fun x=>decide (1000≤x.1))=true) (hH0:∀r∈H0.map (·.1),hget σ.H (ρ r)=(hget H0 r).map (AV.renL ρ)) (hinj:∀r∈H0.map (·.1)++H1.map (·.1),∀q∈H0.map (·.1)++H1.map (·.1),ρ r = ρ q→r=q)
 (hnew:Q1r σ ρ H0 H1) (hinH:inH (H1.map (·.1)) H1=true) (NT:List Nat) (hT0:AV.inNL NT T0=true) (hNT:∀r∈NT,r∈DD∧ρ r=r∧(hget σ.H r).isSome=true)
 (hK:K ((St.mk σ.T (Q0u (Q1m σ.H (renH ρ H0)) (renH ρ H1))).put o.dst (.c (.v (.bool false))))):OpZ (LoopAt t assign body T0 DD l) (Stop t assign body l) P o σ K:=by
 intro E ι a w hp hc K' Q hK'
 obtain⟨⟨f,tt,D,hl,hsz,htt⟩,hfree,hdis,hnames⟩:=hp
 have hlt:=(Array.getElem?_eq_some_iff.1 hl).1
 have hlw:w.heap[l]? = some (.loop (Q1v #[t] assign body f tt D)):=(hc.keep.block l hlt hfree).trans hl
 have hfv:=hc.ev fo hfo
 rw[hf] at hfv
 obtain⟨hfe,_⟩:=hfv.v_inv
 have hav:=hc.ev ao hao
 have hD0':∀r∈H0.map (·.1),1000≤r:=fun r hr=>by
  obtain⟨y,hy,rfl⟩:=List.mem_map.1 hr
  have:=List.all_eq_true.1 hD0 y hy
  simpa using this
 have hH0':∀r cs,hget H0 r=some cs→hget σ.H (ρ r)=some (AV.renL ρ cs):=fun r cs hr=>by rw[hH0 r (Q2q hr),hr];rfl
 obtain⟨E',hE'⟩:∃E':Env,E'={w:=w,S:=Sx E ι σ.H,ι:=fun r=>ι (ρ r),D:=H0.map (·.1),hD:=hD0',hG:=hc.glob hH0'}:=⟨_,rfl⟩
 have hconcH:ConcH E'.S E'.ι H0 E'.w:=by
  subst hE'
  exact hc.enter ρ hH0' fun r hr q hq=>hinj r (List.mem_append_left _ hr) q (List.mem_append_left _ hq)
 have hSE:∀b,E.S b→b<E.w.heap.size→Sx E ι σ.H b∧w.heap[b]? = E.w.heap[b]?:=fun b hb hlt=>by
  refine⟨⟨.inl hb,fun r cs hr hz=>?_⟩,hc.keep.block b hlt fun r hr hz=>hdis r hr hz b hb⟩
  obtain⟨m1,m2⟩:=hc.keep.mine r cs hr
  by_cases hm:r∈E.D
  · rw[m1 hm] at hz ⊢;exact hdis r hm hz b hb
  · rcases m2 hm hz with h1|⟨q,hq,hqz,h1⟩
    · omega
    · rw[←h1];exact hdis q hq hqz b hb
 have hround:=hY E' (a.eval ao) f tt D (by rw[hE']) (fun r cs b hr hz hS=>by
  subst hE'
  exact hS.2 (ρ r) _ (hH0' r cs hr) hz) hconcH (by
   subst hE'
   rcases hx with rfl|e
   · exact .any _
   · exact hav.unren x e) (by rw[hE'];exact hlw) hsz (fun i=>by
     subst hE'
     refine(htt i).mono hSE fun r hr=>?_
     have hin:AV.inN NT (T0.getD i .any)=true:=X2m hT0 i
     obtain⟨g1,g2,g3⟩:=hNT r (Q8r _ hin hr)
     obtain⟨cs,hcs⟩:=Option.isSome_iff_exists.1 g3
     show ι (ρ r)=E.ι r
     rw[g2]
     exact(hc.keep.mine r cs hcs).1 (by rw[hnames];exact g1))
 have hwE:E'.w=w:=by rw[hE']
 rw[hwE] at hround
 have hrun:(execOp a.eval o).run P w = .ok (.round l f (tt.setIfInBounds t (a.eval ao)) assign body) w:=by
  have hy:=run_yield (P:=P) (args:=#[a.eval ao]) hlw rfl
  simp only[execOp,ho,resolve,hfe,Deferred.ofValue,List.map_toArray,List.map_cons,List.map_nil,Sem.run_bind,Sem.run_pure,Result.andThen_ok,invoke,callFunc,Array.empty_append,List.append_toArray,List.nil_append,List.append_nil]
  simpa using hy
 refine⟨fun _ _=>trivial,?_⟩
 rw[Oper.semAt_eq _ _ _ (fun c e=>by rw[ho] at e;cases e),hrun,Oper.uponIn_round]
 refine⟨fun e=>(by cases e),RoundIn.mono hround fun e w'=>?_⟩
 rintro ⟨E2',v,ι',⟨f',ts',D',hl',hG',rfl⟩,rfl,hres,hcH,hk⟩
 simp only
 have hrec:Q1v #[t] assign body f' ts' D'=Q1v #[t] assign body f tt D:=by
  rw[hwE,hlw] at hl'
  have h:=Option.some.inj hl'
  injection h with h
  exact h.symm
 have hrd:recD #[t] assign body f' ts' D'=recD #[t] assign body f tt D:=by
  show({Q1v #[t] assign body f' ts' D' with state:=.done,pending:=some .ret}:Loop)=_
  rw[hrec]
 revert hG' hres hcH hk
 rw[hrd]
 intro hG' hres hcH hk
 have hcz:=hc.rebase (.loop (recD #[t] assign body f tt D)) hl hlw rfl
 obtain⟨Ez,hEz⟩:∃Ez:Env,Ez={E with w:=E.w.putObj l (.loop (recD #[t] assign body f tt D)),hG:=E.hG.putObj hl rfl}:=⟨_,rfl⟩
 rw[←hEz] at hcz
 have hSxe:Sx Ez ι σ.H=Sx E ι σ.H:=by
  funext b
  subst hEz
  unfold Sx Mine
  simp only[World.putObj_size]
 have hE2:∀(hG1:GlobOK (E'.w.putObj l (.loop (recD #[t] assign body f tt D))) E'.S E'.ι E'.D),({E' with w:=E'.w.putObj l (.loop (recD #[t] assign body f tt D)),hG:=hG1}:Env)={w:=w.putObj l (.loop (recD #[t] assign body f tt D)),S:=Sx Ez ι σ.H,ι:=fun r=>ι (ρ r),D:=H0.map (·.1),hD:=hD0',hG:=hcz.glob hH0'}:=by
  intro hG1
  subst hE'
  simp only[hSxe]
 obtain⟨ι2,hcn,hrv⟩:=hcz.back ρ hD0' hH0' hinj hnew rfl hinH (hE2 _) hres hcH hk
 exact hK' Ez ι2 _ _ _ ⟨f,tt,D,hl,_,hEz⟩ hK (hcn.put o.dst hrv)
def FnZ(p:Env→Prop)(Z:Env→Env→Prop)(P:Program)(f:FuncId)(args:List AV)(H0:List (Nat×List AV))(res:AV)(H1:List (Nat×List AV)):Prop:=
 ∀(E:Env) (vs:List Value),p E→E.D=H0.map (·.1)→(∀r cs b,hget H0 r=some cs→(E.ι r).2.1≠0→E.S b→(E.ι r).1≠b)→ConcH E.S E.ι H0 E.w→vs.length=args.length→(∀(j:Nat) (v:Value) (x:AV),vs[j]? = some v→args[j]? = some x→RV E.S E.ι E.w v x) →
  Calls P f vs.toArray E.w fun e w'=>∃E2 v ι',Z E E2∧e = .returned v∧RV (Sx E2 ι' H1) ι' w' v res∧ConcH (Sx E2 ι' H1) ι' H1 w'∧Keep E2 ι' H1 w'
theorem fnZ_of{p:Env→Prop}{Z:Env→Env→Prop}{P:Program}{f:FuncId}{fn:Func}{c:Code}{args:List AV}{H0 H1:List (Nat×List AV)}{res:AV}(hf:P.funcs[f]? = some fn)(hb:fn.body=some c)(hD:H0.all (fun x=>decide (1000≤x.1))=true)
 (h:AWZ p Z P c ⟨args++List.replicate (fn.ntmps-args.length) AV.any,H0⟩ (fun _ _=>False) (FnEnd P fn.results.toList res H1)):FnZ p Z P f args H0 res H1:=by
 intro E vs hpE hED hS hH hlen hargs
 refine(callsIn_wide (n:=0)).1 (callsIn_of_wp_marks hf hb trivial (wpIn_wide.2 ?_))
 have hc0:Conc E E.ι ⟨args++List.replicate (fn.ntmps-args.length) AV.any,H0⟩ {tmps:=vs.toArray++Array.replicate (fn.ntmps-vs.toArray.size) undef,defers:=[]} E.w:=by
  refine Conc.begin E hED hS hH (by simp[hlen]) fun i=>?_
  by_cases hi:i<args.length
  · have e1:(vs.toArray++Array.replicate (fn.ntmps-vs.toArray.size) undef).getD i undef=vs[i]'(by omega):=by
     rw[Array.getD_eq_getD_getElem?,Array.getElem?_append_left (by simp;omega)]
     simp[show i<vs.length by omega]
    have e2:(args++List.replicate (fn.ntmps-args.length) AV.any).getD i .any=args[i]:=by
     rw[List.getD_eq_getElem?_getD,List.getElem?_append_left hi];simp[hi]
    rw[e1,e2]
    exact hargs i _ _ (List.getElem?_eq_getElem (by omega)) (List.getElem?_eq_getElem hi)
  · have e2:(args++List.replicate (fn.ntmps-args.length) AV.any).getD i .any = .any:=by
     rw[List.getD_eq_getElem?_getD,List.getElem?_append_right (by omega),List.getElem?_replicate]
     split<;>rfl
    rw[e2];exact .any _
 refine wp_mono (h E E.ι _ E.w hpE hc0) fun ex a' w'=>?_
 rintro (⟨_,_,_,h⟩|⟨E2,ι',σ',hz,hc',hex,⟨r,hres,hler⟩,hH1⟩)
 · exact h.elim
 have key:LeavesInM Fence.wide 0 P fn a'.tmps (fun e w'=>∃E2 v ι',Z E E2∧e=Ending.returned v∧RV (Sx E2 ι' H1) ι' w' v res∧ConcH (Sx E2 ι' H1) ι' H1 w'∧Keep E2 ι' H1 w') a'.defers .returning w':=by
  obtain⟨Ds,hnd,hds,hDs⟩:=hc'.defers
  rw[hds]
  refine Q5p (E:=E2) (ι:=ι') (σ:=σ') (fun w' hc'=>?_) Ds w' hnd (fun D hD=>⟨(hDs D hD).1,(hDs D hD).2.2⟩) hc'.bare
  rw[Option.map_eq_some_iff] at hres
  obtain⟨ys,hys,rfl⟩:=hres
  obtain⟨us,hrun,hul,hrv⟩:=Q8p hc' fn.results.toList ys hys
  have hle:=hc'.leH hH1
  have hSx:∀b,Sx E2 ι' σ'.H b→b<w'.heap.size→Sx E2 ι' H1 b∧w'.heap[b]? = w'.heap[b]?:=fun b ⟨h1,h2⟩ _=>⟨⟨h1,fun r cs hr=>h2 r cs (hH1 r cs hr)⟩,rfl⟩
  have hR:∀{v:Value} {x:AV},RV (Sx E2 ι' σ'.H) ι' w' v x→RV (Sx E2 ι' H1) ι' w' v x:=fun hv=>hv.mono hSx fun _ _=>rfl
  have hres':(results fn a'.tmps).run P w' = .ok (if h:us.toArray.size=1 then us.toArray[0] else .tuple us.toArray) w':=by
   have e0:results fn a'.tmps=(fn.results.mapM (X4c {tmps:=a'.tmps,defers:=[]}) >>= fun vs=>pure (if h:vs.size=1 then vs[0] else .tuple vs)):=by
    unfold results
    congr 2
   have e:fn.results=fn.results.toList.toArray:=by simp
   rw[e0,Sem.run_bind,e,List.mapM_toArray,Sem.run_map,hrun]
   simp only[Result.andThen_ok,Sem.run_pure]
  refine⟨_,hres',E2,_,ι',hz,rfl,hler _ _ _ _ ?_,hle.heap,hle.keep⟩
  rcases ys with _|⟨y1,_|⟨y2,ys⟩⟩
  · obtain rfl:=List.eq_nil_of_length_eq_zero hul
    exact .tup [] [] rfl fun j u x hu=>by cases hu
  · rcases us with _|⟨u1,_|⟨u2,us⟩⟩
    · simp at hul
    · simpa [Q0m] using hR (hrv 0 u1 y1 rfl rfl)
    · simp at hul
  · rcases us with _|⟨u1,_|⟨u2,us⟩⟩
    · simp at hul
    · simp at hul
    · have:¬(u1::u2::us).toArray.size=1:=by simp
      rw[dif_neg this]
      exact .tup _ _ hul fun j u x hu hx=>hR (hrv j u x hu hx)
 rcases hex with rfl|rfl
 · exact key
 · exact key
theorem AW.rangeRet{P:Program}{σ : St}{Φ : Exit→St→Prop}{g:Operand}{t:Tmp}{assign body:Code}{gf:FuncId}{fn:Func}{caps:List AV}{cargs:List AV}{H0 H1:List (Nat×List AV)}{res:AV}{T0:List AV}(ρ : Nat→Nat)
 (hF:∀l,FnZ (LoopAt t assign body T0 (H0.map (·.1)) l) (Stop t assign body l) P gf (yv l::cargs) H0 res H1) (hg0:Q0k g=true) (hg:σ.ev g = .fn gf caps) (hfn:P.funcs[gf]? = some fn) (hname:(fn.name == "runtime.NumGoroutine")=false) (hbody:fn.body.isNone=false)
 (hD0:H0.all (fun x=>decide (1000≤x.1))=true) (hargs:Q1d ρ cargs caps) (hT0:Q1d ρ T0 σ.T) (hH0:∀r∈H0.map (·.1),hget σ.H (ρ r)=(hget H0 r).map (AV.renL ρ)) (hinj:∀r∈H0.map (·.1)++H1.map (·.1),∀q∈H0.map (·.1)++H1.map (·.1),ρ r = ρ q→r=q)
 (hnew:Q1r σ ρ H0 H1) (hin:AV.inN (H1.map (·.1)) res=true) (hinH:inH (H1.map (·.1)) H1=true)
 (hK:Φ .ret ⟨σ.T,Q0u (Q1m σ.H (renH ρ H0)) (renH ρ H1)⟩):AW P (.rangeFunc g #[t] assign body) σ Φ:=by
 intro E ι a w hc
 have hfv:=hc.ev g hg0
 rw[hg] at hfv
 generalize hge:a.eval g=fv at hfv
 cases hfv with
 |fn _ us _ hul hus=>
  refine(wpIn_wide (n:=0)).1 (wpIn_rangeFunc fun f _=>?_)
  obtain⟨w1,hw1⟩:∃w1,(w.alloc (.deferred (some []))).alloc (.loop (Q1v #[t] assign body f a.tmps w.heap.size))=w1:=⟨_,rfl⟩
  have hc1:Conc E ι σ a w1:=hw1▸(hc.alloc _).alloc _
  have hL:w1.heap[w.heap.size+1]? = some (.loop (Q1v #[t] assign body f a.tmps w.heap.size)):=by
   rw[←hw1]
   have:=World.alloc_heap_new (w.alloc (.deferred (some []))) (.loop (Q1v #[t] assign body f a.tmps w.heap.size))
   rwa [World.size_alloc] at this
  have hB:w1.heap[w.heap.size]? = some (.deferred (some [])):=by
   rw[←hw1,Below.heap_alloc _ _ _ (by rw[World.size_alloc];omega)]
   exact World.alloc_heap_new _ _
  have hD0':∀r∈H0.map (·.1),1000≤r:=fun r hr=>by
   obtain⟨y,hy,rfl⟩:=List.mem_map.1 hr
   have:=List.all_eq_true.1 hD0 y hy
   simpa using this
  have hH0':∀r cs,hget H0 r=some cs→hget σ.H (ρ r)=some (AV.renL ρ cs):=fun r cs hr=>by rw[hH0 r (Q2q hr),hr];rfl
  obtain⟨E',hE'⟩:∃E':Env,E'={w:=w1,S:=Sx E ι σ.H,ι:=fun r=>ι (ρ r),D:=H0.map (·.1),hD:=hD0',hG:=hc1.glob hH0'}:=⟨_,rfl⟩
  have hwE:E'.w=w1:=by rw[hE']
  have hED:E'.D=H0.map (·.1):=by rw[hE']
  have hconcH:ConcH E'.S E'.ι H0 E'.w:=by
   subst hE'
   exact hc1.enter ρ hH0' fun r hr q hq=>hinj r (List.mem_append_left _ hr) q (List.mem_append_left _ hq)
  have hdis:∀r cs b,hget H0 r=some cs→(E'.ι r).2.1≠0→E'.S b→(E'.ι r).1≠b:=fun r cs b hr hz hS=>by
   subst hE'
   exact hS.2 (ρ r) _ (hH0' r cs hr) hz
  have hneL:∀r∈E'.D,(E'.ι r).2.1≠0→(E'.ι r).1≠w.heap.size+1:=by
   rw[hED];exact Q6e hconcH (by rw[hwE];exact hL) rfl
  have hneB:∀r∈E'.D,(E'.ι r).2.1≠0→(E'.ι r).1≠w.heap.size:=by
   rw[hED];exact Q6e hconcH (by rw[hwE];exact hB) rfl
  obtain⟨hTl,hTg⟩:=Q3e hT0
  obtain⟨hal,hag⟩:=Q3e hargs
  have hat:LoopAt t assign body T0 (H0.map (·.1)) (w.heap.size+1) E':=by
   refine⟨⟨f,a.tmps,w.heap.size,by rw[hwE];exact hL,hc1.size.trans hTl.symm,fun i=>?_⟩,hneL,fun r hr hz b hb=>?_,hED⟩
   · subst hE'
     have hv:=hc1.tmp i
     rw[List.getD_eq_getElem?_getD] at hv ⊢
     cases hi:T0[i]? with
     |none=>exact .any _
     |some x=>
      have hlt:=(List.getElem?_eq_some_iff.1 hi).1
      rw[List.getElem?_eq_getElem (by omega)] at hv
      rcases hTg i x _ hi (List.getElem?_eq_getElem (by omega)) with rfl|e
      · exact .any _
      · exact hv.unren x e
   · obtain⟨cs,hcs⟩:=Q1e (hED▸hr)
     exact hdis r cs b hcs hz hb
  have hcall:=hF (w.heap.size+1) E' (.func (.yield (w.heap.size+1)) #[] #[]::us) hat hED hdis hconcH (by simp[hul,hal]) (fun j v x hv hx=>by
   cases j with
   |zero=>cases hv;cases hx;exact .c _ _ (.v _ rfl)
   |succ j=>
    simp only[List.getElem?_cons_succ] at hv hx
    have hlt:=(List.getElem?_eq_some_iff.1 hx).1
    subst hE'
    rcases hag j x _ hx (List.getElem?_eq_getElem (by omega)) with rfl|e
    · exact .any _
    · have:=hus j v _ hv (List.getElem?_eq_getElem (by omega))
      exact(this.mono (S':=Sx E ι σ.H) (w':=w1) (fun b hb hlt=>⟨hb,by rw[←hw1,Below.heap_alloc _ _ _ (by rw[World.size_alloc];omega),Below.heap_alloc _ _ _ hlt]⟩) fun _ _=>rfl).unren x e)
  rw[hwE] at hcall
  refine⟨w.heap.size+1,[{target:=.collected w.heap.size,args:=#[]}],w1,{target:=.fn (.func gf) us.toArray,args:=#[.func (.yield (w.heap.size+1)) #[] #[]]},w1,gf,(.func (.yield (w.heap.size+1)) #[] #[]::us:List Value).toArray,w1,?_,?_,fun _ _=>trivial,?_,fun e=>(by cases e),(callsIn_wide (n:=0-1)).2 (hcall.mono fun e w'=>?_)⟩
  · rw[←hw1];exact run_enterLoop_outer f a.tmps #[t] assign body
  · simp only[resolve,hge,Deferred.ofValue,List.map_toArray,List.map_cons,List.map_nil,Sem.run_bind,Sem.run_pure,Result.andThen_ok,Array.empty_append]
    rfl
  · have hen:=Q4t hfn hname hbody (.func (.yield (w.heap.size+1)) #[] #[]::us:List Value).toArray w1
    simpa only[invoke,List.append_toArray,List.cons_append,List.nil_append] using hen
  · rintro ⟨E2',v,ι',⟨f',ts',D',hl',hG',rfl⟩,rfl,hres,hcH,hk⟩
    have hrec:Q1v #[t] assign body f' ts' D'=Q1v #[t] assign body f a.tmps w.heap.size:=by
     rw[hwE,hL] at hl'
     have h:=Option.some.inj hl'
     injection h with h
     exact h.symm
    have hrd:recD #[t] assign body f' ts' D'=recD #[t] assign body f a.tmps w.heap.size:=by
     show({Q1v #[t] assign body f' ts' D' with state:=.done,pending:=some .ret}:Loop)=_
     rw[hrec]
    revert hG' hres hcH hk
    rw[hrd]
    intro hG' hres hcH hk
    have hE0:=hc.keep.size
    have hcz:=hc1.turn (.loop (recD #[t] assign body f a.tmps w.heap.size)) hL rfl (by omega) (ds:=a.defers) (by
     obtain⟨Ds0,k1,k2,k3⟩:=hc1.defers
     refine⟨Ds0,k1,k2,fun D hD=>?_⟩
     obtain⟨m1,m2,m3⟩:=k3 D hD
     refine⟨m1,m2,(World.putObj_heap_other fun e=>?_).trans m3⟩
     rw[e,hL] at m3;cases m3)
    change Conc E ι σ a _ at hcz
    have hE2:∀(hG1:GlobOK (E'.w.putObj (w.heap.size+1) (.loop (recD #[t] assign body f a.tmps w.heap.size))) E'.S E'.ι E'.D),({E' with w:=E'.w.putObj (w.heap.size+1) (.loop (recD #[t] assign body f a.tmps w.heap.size)),hG:=hG1}:Env)={w:=w1.putObj (w.heap.size+1) (.loop (recD #[t] assign body f a.tmps w.heap.size)),S:=Sx E ι σ.H,ι:=fun r=>ι (ρ r),D:=H0.map (·.1),hD:=hD0',hG:=hcz.glob hH0'}:=by
     intro hG1
     subst hE'
     rfl
    obtain⟨ι2,hcn,-⟩:=hcz.back ρ hD0' hH0' hinj hnew hin hinH (hE2 _) hres hcH hk
    have hlt1:w.heap.size+1<w1.heap.size:=(Array.getElem?_eq_some_iff.1 hL).1
    have hL':w'.heap[w.heap.size+1]? = some (.loop (recD #[t] assign body f a.tmps w.heap.size)):=by
     have hb1:w'.heap[w.heap.size+1]? = (E'.w.putObj (w.heap.size+1) (.loop (recD #[t] assign body f a.tmps w.heap.size))).heap[w.heap.size+1]?:=hk.block _ (show _<(E'.w.putObj _ _).heap.size by rw[World.putObj_size,hwE];exact hlt1) hneL
     rw[hb1,hwE];exact World.putObj_heap_same hlt1
    have hB':w'.heap[w.heap.size]? = some (.deferred (some [])):=by
     have hb1:w'.heap[w.heap.size]? = (E'.w.putObj (w.heap.size+1) (.loop (recD #[t] assign body f a.tmps w.heap.size))).heap[w.heap.size]?:=hk.block _ (show _<(E'.w.putObj _ _).heap.size by rw[World.putObj_size,hwE];omega) hneB
     rw[hb1,hwE,World.putObj_heap_other (by omega)];exact hB
    refine⟨some .ret,_,run_endLoop hL' (by simp),?_⟩
    have hMk:Marks E (Sx E ι2 (Q0u (Q1m σ.H (renH ρ H0)) (renH ρ H1))) (w'.putObj (w.heap.size+1) (.loop {recD #[t] assign body f a.tmps w.heap.size with state:=.exhausted})) ({target:=.collected w.heap.size,args:=#[]}::a.defers):=by
     obtain⟨Ds,g1,g2,g3⟩:=hcn.defers
     obtain⟨Ds0,k1,k2,k3⟩:=hc.defers
     have hinjm:Ds=Ds0:=by
      have:=g2.symm.trans k2
      exact(List.map_inj_right (fun x y e=>by simpa using e)).1 this
     subst hinjm
     refine⟨w.heap.size::Ds,List.nodup_cons.2 ⟨fun hm=>?_,g1⟩,by rw[List.map_cons,←g2],fun D hD=>?_⟩
     · have:=(Array.getElem?_eq_some_iff.1 (k3 _ hm).2.2).1;omega
     · rcases List.mem_cons.1 hD with rfl|hD
       · refine⟨hE0,⟨.inr (.inl hE0),fun r cs hr hz e=>?_⟩,(World.putObj_heap_other (by omega)).trans hB'⟩
         rcases hcn.heap.blk r cs hr with⟨h0,_⟩|⟨cur,hh,_⟩
         · exact hz h0
         · rw[e,hB'] at hh;cases hh
       · obtain⟨m1,m2,m3⟩:=g3 D hD
         have:=(Array.getElem?_eq_some_iff.1 (k3 D hD).2.2).1
         exact⟨m1,m2,(World.putObj_heap_other (by omega)).trans m3⟩
    exact wpIn_wide.2 (wp_ret ⟨ι2,_,hcn.turn _ hL' rfl (by omega) hMk,hK⟩)
end
section
open Go.RowKit
open Nat (reduceBEq)
attribute [-go_sem] IntKind.bits
set_option maxRecDepth 20000
set_option maxHeartbeats 2000000
abbrev stZ(ks:List PV)(ph:List Ph)(lp:Nat)(c2 c3:List AV)(i:Nat):St:=⟨[yv lp,.ptr 1101 0,.any,.any,.any,.any,.any,.any,.any,.any,.any,phs false ph,vi .i64 ph.length,vi .i64 i,.any,.any,.any,.any,.any,.any,.any,.any,.any,.any,.any,.any,.any,.any,.any,.any,.any,.any,.any,.any,.any,.any,.any,.any,.any,.any,.any],[(1002,c2),(1003,c3),(1101,[.ep ks])]⟩
abbrev stY(ks:List PV)(ph:List Ph)(p:Ph)(lp:Nat)(c2 c3:List AV)(i j:Nat):St:=⟨[yv lp,.ptr 1101 0,.any,vi .i64 i,.ptr 4 0,.any,.any,.any,.any,.any,.any,phs false ph,vi .i64 ph.length,vi .i64 i,.any,.any,.any,.any,.any,.any,vi .i64 p.tr.length,vi .i64 j,.any,.any,.any,.any,.any,.any,.any,.any,.any,.any,.any,.any,.any,.any,.any,.any,.any,.any,.any],[(1002,c2),(1003,c3),(1101,[.ep ks]),(4,[vi .i64 p.role,vi .u64 p.who,vb p.stk,evs false p.tr])]⟩
theorem brkZ_fn(snd:Int)(ph:List Ph)(cs:List PV)(R:Ph→Nat→Ev→Int)(hl:ph.length≤1000)(hp:∀p∈ph,p.tr.length≤1000)
 (hRu:∀p∈ph,∀(j:Nat) (e:Ev),p.tr[j]? = some e→Fn Tryz.prog 68 [.ep (.v (.int .u64 snd) :: .sl false 4 ph.length (ph.flatMap Ph.pv)::cs),phA p,vi .i64 j] [] (vi .i64 (R p j e)) [])
 {t:Tmp} {asg bod:Code} {T0:List AV} (hT0:AV.inNL [1002,1003] T0=true) (lp:Nat) (b:Bk) (rest:List Bk) (hf:brkG R ph 0=b::rest) (c2 c3 d2 d3:List AV)
 (hren:∀r,AV.refsL r c2=false∧AV.refsL r c3=false) (hc2:AV.renL (fun r=>r) c2=c2) (hc3:AV.renL (fun r=>r) c3=c3) (hd2:AV.renL (fun r=>r) d2=d2) (hd3:AV.renL (fun r=>r) d3=d3) (hin:inH [1002,1003] [(1002,d2),(1003,d3)]=true)
 (hY:YZ Tryz.prog t asg bod T0 lp (bkA b) [(1002,c2),(1003,c3)] [(1002,d2),(1003,d3)]) :
 FnZ (LoopAt t asg bod T0 [1002,1003,1101] lp) (Stop t asg bod lp) Tryz.prog 94 [yv lp,.ptr 1101 0] [(1002,c2),(1003,c3),(1101,[.ep (.v (.int .u64 snd) :: .sl false 4 ph.length (ph.flatMap Ph.pv)::cs)])] (.tup []) [(1002,d2),(1003,d3)]:=by
 obtain⟨ks,hks⟩:∃ks,(.v (.int .u64 snd) :: .sl false 4 ph.length (ph.flatMap Ph.pv)::cs)=ks:=⟨_,rfl⟩
 rw[hks] at hRu
 obtain⟨k1000,k1001⟩:AV.renL (fun r=>r) c2=c2∧AV.renL (fun r=>r) c3=c3:=⟨hc2,hc3⟩
 have r2:=fun r=>(hren r).1
 have r3:=fun r=>(hren r).2
 (refine fnZ_of Tryz.func94 rfl (by rfl) ?_;simp only[Tryz.ntmps94,List.length_cons,List.length_nil,Nat.reduceAdd,Nat.reduceSub,List.replicate,List.cons_append,List.nil_append])
 refine AWZ.seq1 (AWE.of ?_)
 (repeat(any_goals(first|((with_reducible refine Q0b ?_ ?_);rfl;intro K hK;simp only[go_sem,r2,r3];((repeat(refine ndI (by first|assumption|omega) ?_));refine hK _ ?_;clear hK K))|(with_reducible first|(refine Q0c ?_;refine hR _ ?_;clear hR R)|(refine Q0a ?_;intro R hR)))))
 rw[hks]
 show AWZ _ _ _ _ _ _ _
 refine AWZ.block ?_
 refine AWZ.loop (α:={i:Nat // i≤ph.length∧brkG R (ph.drop i) i=b::rest}) (fun q=>stZ ks ph lp c2 c3 q.1) (fun q=>ph.length-q.1) ⟨0,Nat.zero_le _,hf⟩ ?_ ?_
 · exact St.to.of_le (St.le_of (by simp[leT]) (by simp[leH,hget,hput]))
 rintro ⟨i,hi,hd⟩
 dsimp only[stZ]
 rcases Nat.lt_or_ge i ph.length with hlt|hge
 · obtain⟨y,hy⟩:∃y,ph[i]? = some y:=⟨ph[i],List.getElem?_eq_getElem hlt⟩
   have k1:(decide ((i:Int)<(ph.length:Int)))=true:=by simpa using hlt
   have k2:=Q4x hy
   have k7:(i:Int)+1=((i+1:Nat):Int):=by omega
   have hm:=List.mem_of_getElem? hy
   have hRy:=hRu y hm
   have hyl:=hp y hm
   have hdr:ph.drop i=y::ph.drop (i+1):=by
    rw[List.drop_eq_getElem_cons hlt]
    rw[List.getElem?_eq_getElem hlt] at hy
    rw[Option.some.inj hy]
   rw[hdr] at hd
   unfold brkG at hd
   have fin:∀τ : St,brkG R (ph.drop (i+1)) (i+1)=b::rest→τ.to (stZ ks ph lp c2 c3 (i+1))→∃q:{i:Nat // i≤ph.length∧brkG R (ph.drop i) i=b::rest},ph.length-q.1<ph.length-i∧τ.to (stZ ks ph lp c2 c3 q.1):=fun τ hh h=>⟨⟨i+1,hlt,hh⟩,by simp only;omega,h⟩
   refine AWZ.seq1 (AWE.of ?_)
   (repeat(any_goals(first|((with_reducible refine Q0b ?_ ?_);rfl;intro K hK;simp only[go_sem,k1,r2,r3];((repeat(refine ndI (by first|assumption) ?_));refine hK _ ?_;clear hK K))|(with_reducible first|(refine Q0c ?_;refine hR _ ?_;clear hR R)|(refine Q0a ?_;intro R hR)))))
   refine AWZ.seq1 (AWE.of ?_)
   (repeat(any_goals(first|(with_reducible first|refine Q0h ?_)|((with_reducible apply Q0d);rfl;rfl;all_goals(intro hc;first|(cases hc;done)|(try simp only at hc))))))
   refine AWZ.seq (AWZ.block (AWZ.seq1 (AWE.of ?_)))
   (repeat(any_goals(first|((with_reducible refine Q0b ?_ ?_);rfl;intro K hK;simp(disch:=omega) only[go_sem,k1,k2,k7,wrI,r2,r3];((repeat(refine ndI (by first|assumption|omega|rfl) ?_));refine hK _ ?_;clear hK K))|(with_reducible first|(refine Q0c ?_;refine hR _ ?_;clear hR R)|(refine Q0a ?_;intro R hR)))))
   refine AWZ.seq1 (AWE.of ?_)
   (repeat(any_goals(first|((with_reducible refine Q0b ?_ ?_);rfl;intro K hK;simp(disch:=omega) only[go_sem,k1,k2,k7,wrI,r2,r3];((repeat(refine ndI (by first|assumption|rfl) ?_));refine hK _ ?_;clear hK K))|(with_reducible first|(refine Q0c ?_;refine hR _ ?_;clear hR R)|(refine Q0a ?_;intro R hR)))))
   refine AWZ.block ?_
   refine AWZ.loop (α:={j:Nat // j≤y.tr.length∧brkP (R y) i (y.tr.drop j) j++brkG R (ph.drop (i+1)) (i+1)=b::rest}) (fun q=>stY ks ph y lp c2 c3 i q.1) (fun q=>y.tr.length-q.1) ⟨0,Nat.zero_le _,hd⟩ ?_ ?_
   · exact St.to.of_le (St.le_of (by simp[leT]) (by simp[leH,hget,hput]))
   clear hd
   rintro ⟨j,hj,hd⟩
   dsimp only[stY]
   rcases Nat.lt_or_ge j y.tr.length with hjt|hje
   · obtain⟨e,he⟩:∃e,y.tr[j]? = some e:=⟨y.tr[j],List.getElem?_eq_getElem hjt⟩
     have c1:(decide ((j:Int)<(y.tr.length:Int)))=true:=by simpa using hjt
     have c7:(j:Int)+1=((j+1:Nat):Int):=by omega
     have rl:=hRy j e he
     have hdj:y.tr.drop j=e::y.tr.drop (j+1):=by
      rw[List.drop_eq_getElem_cons hjt]
      rw[List.getElem?_eq_getElem hjt] at he
      rw[Option.some.inj he]
     rw[hdj] at hd
     unfold brkP at hd
     have fin2:∀τ : St,brkP (R y) i (y.tr.drop (j+1)) (j+1)++brkG R (ph.drop (i+1)) (i+1)=b::rest→τ.to (stY ks ph y lp c2 c3 i (j+1))→∃q:{j:Nat // j≤y.tr.length∧brkP (R y) i (y.tr.drop j) j++brkG R (ph.drop (i+1)) (i+1)=b::rest},y.tr.length-q.1<y.tr.length-j∧τ.to (stY ks ph y lp c2 c3 i q.1):=fun τ hh h=>⟨⟨j+1,hjt,hh⟩,by simp only;omega,h⟩
     clear fin
     generalize brkP (R y) i (y.tr.drop (j+1)) (j+1)=u1 at fin2 hd
     generalize brkG R (ph.drop (i+1)) (i+1)=u2 at fin2 hd
     generalize R y j e=z at rl hd
     obtain⟨bz,hb⟩:∃b,decide (z>0)=b:=⟨_,rfl⟩
     refine AWZ.seq1 (AWE.of ?_)
     (repeat(any_goals(first|((with_reducible refine Q0b ?_ ?_);rfl;intro K hK;simp only[go_sem,c1,r2,r3];((repeat(refine ndI (by first|assumption) ?_));refine hK _ ?_;clear hK K))|(with_reducible first|(refine Q0c ?_;refine hR _ ?_;clear hR R)|(refine Q0a ?_;intro R hR)))))
     refine AWZ.seq1 (AWE.of ?_)
     (repeat(any_goals(first|(with_reducible first|refine Q0h ?_)|((with_reducible apply Q0d);rfl;rfl;all_goals(intro hc;first|(cases hc;done)|(try simp only at hc))))))
     refine AWZ.seq (AWZ.block (AWZ.seq1 (AWE.of ?_)))
     (repeat(any_goals(first|((with_reducible refine Q0b ?_ ?_);rfl;intro K hK;simp(disch:=omega) only[go_sem,c1,c7,r2,r3,wrI];((repeat(refine ndI (by first|assumption|rfl) ?_));refine hK _ ?_;clear hK K))|(with_reducible first|(refine Q0c ?_;refine hR _ ?_;clear hR R)|(refine Q0a ?_;intro R hR)))))
     refine AWZ.seq1 (AWE.of ?_)
     (repeat(any_goals(first|((with_reducible refine Q0l ?_ ?_ ?_);rfl;rfl;intro K hK;((apply Q0i (rl);rfl;rfl;rfl;rfl;exact Tryz.func68);kernel_rfl;rfl;(focus((simp(disch:=omega) only[go_sem,c1,c7,r2,r3,wrI]);(try rfl);done));(first|rfl));(simp(disch:=omega) only[go_sem,c1,c7,r2,r3,wrI];refine hK _ ?_;clear hK K))|((with_reducible refine Q0b ?_ ?_);rfl;intro K hK;simp(disch:=omega) only[go_sem,c1,c7,r2,r3,wrI];((repeat(refine ndI (by first|assumption|rfl) ?_));refine hK _ ?_;clear hK K))|(with_reducible first|(refine Q0c ?_;refine hR _ ?_;clear hR R)|(refine Q0a ?_;intro R hR)))))
     cases bz with
     |false=>
      have hz:¬z>0:=of_decide_eq_false hb
      rw[if_neg hz] at hd
      refine AWZ.seq1 (AWE.of ?_)
      (repeat(any_goals(first|((with_reducible refine Q0b ?_ ?_);rfl;intro K hK;simp(disch:=omega) only[go_sem,c7,r2,r3,hb,wrI];((repeat(refine ndI (by first|assumption|rfl) ?_));refine hK _ ?_;clear hK K))|(with_reducible first|(refine Q0c ?_;refine hR _ ?_;clear hR R)|(refine Q0a ?_;intro R hR))|((with_reducible apply Q0p);rfl;rfl;rfl;all_goals(intro hb;first|(cases hb;done)|((try simp only[Bool.not_true,Bool.not_false] at hb);(first|((fail_if_success (with_reducible intro _));simp(disch:=omega) only[go_sem,c7,r2,r3,hb,wrI]))))))))
      show AWZ _ _ _ _ _ _ _
      refine AWZ.of (AWE.of ?_)
      (repeat(any_goals(first|(with_reducible first|refine Q0h ?_)|((with_reducible apply Q0d);rfl;rfl;all_goals(intro hc;first|(cases hc;done)|(try simp only at hc))))))
      show AWZ _ _ _ _ _ _ _
      refine AWZ.of (AWE.of ?_)
      (repeat(any_goals(first|((with_reducible refine Q0b ?_ ?_);rfl;intro K hK;simp(disch:=omega) only[go_sem,c7,wrI];((repeat(refine ndI (by first|assumption|rfl) ?_));refine hK _ ?_;clear hK K))|(with_reducible first|(refine Q0c ?_;refine hR _ ?_;clear hR R)|(refine Q0a ?_;intro R hR)))))
      exact fin2 _ hd (St.to.of_le (St.le_of (by simp[leT]) (by simp[leH,hget])))
     |true=>
      have hz:z>0:=of_decide_eq_true hb
      rw[if_pos hz] at hd
      obtain rfl:(⟨i,j,z⟩:Bk)=b:=(List.cons.inj hd).1
      refine AWZ.seq (AWZ.region_at 8 rfl rfl ?_)
      intro R hR
      simp only[List.take,List.drop]
      (repeat(any_goals(first|((with_reducible refine Q0b ?_ ?_);rfl;intro K hK;simp(disch:=omega) only[go_sem,c7,r2,r3,hb,wrI];((repeat(refine ndI (by first|assumption|rfl) ?_));refine hK _ ?_;clear hK K))|(with_reducible first|(refine Q0c ?_;refine hR _ ?_;clear hR R))|((with_reducible apply Q0p);rfl;rfl;rfl;all_goals(intro hb;first|(cases hb;done)|((try simp only[Bool.not_true,Bool.not_false] at hb);(first|((with_reducible intro K hK);simp(disch:=omega) only[go_sem,c7,r2,r3,hb,wrI];((repeat(refine ndI (by first|assumption|rfl) ?_));refine hK _ ?_;clear hK K)))))))))
      refine⟨.inr ⟨2,true,30,rfl,rfl,rfl⟩,opZ_yield hY (fun r=>r) rfl rfl rfl rfl (.inr ?_) (by rfl) ?_ ?_ ?_ ?_ [1002,1003] hT0 ?_ ?_⟩
      · simp[AV.ren,AV.renL,St.ev]
      · simp[hget,hc2,hc3]
      · intro r hr q hq h
        exact h
      · simp[Q1r,St.free,Q1z,AV.refs,AV.refsL,r2,r3]
      · exact hin
      · simp[hget]
      intro R hR
      simp only[List.drop,Q0u,Q1m,renH,AV.ren,hd2,hd3,hc2,hc3,hput,hdel,hget,St.put,List.set]
      (repeat(any_goals(first|((with_reducible refine Q0b ?_ ?_);rfl;intro K hK;simp(disch:=omega) only[go_sem,c7,r2,r3,hb,wrI];((repeat(refine ndI (by first|assumption|rfl) ?_));refine hK _ ?_;clear hK K))|(with_reducible first|(refine Q0c ?_;refine hR _ ?_;clear hR R)|refine Q0j ?_)|((with_reducible apply Q0p);rfl;rfl;rfl;all_goals(intro hb;first|(cases hb;done)|((try simp only[Bool.not_true,Bool.not_false] at hb);(first|((with_reducible intro K hK);simp(disch:=omega) only[go_sem,c7,r2,r3,hb,wrI];((repeat(refine ndI (by first|assumption|rfl) ?_));refine hK _ ?_;clear hK K))))))|((with_reducible apply Q0d);rfl;rfl;all_goals(intro hc;first|(cases hc;done)|(try simp only at hc))))))
      exact⟨by simp,⟨_,rfl,AV.le_of (by simp[Q0m])⟩,Q0g (by simp[leH,hget])⟩
   · have c1:(decide ((j:Int)<(y.tr.length:Int)))=false:=by simpa using hje
     rw[List.drop_eq_nil_of_le hje] at hd
     have hd:brkG R (ph.drop (i+1)) (i+1)=b::rest:=hd
     refine AWZ.seq1 (AWE.of ?_)
     (repeat(any_goals(first|((with_reducible refine Q0b ?_ ?_);rfl;intro K hK;simp only[go_sem,c1,r2,r3];((repeat(refine ndI (by first|assumption) ?_));refine hK _ ?_;clear hK K))|(with_reducible first|(refine Q0c ?_;refine hR _ ?_;clear hR R)|(refine Q0a ?_;intro R hR)))))
     refine AWZ.of (AWE.seq (AWE.of ?_))
     (repeat(any_goals(first|(with_reducible first|refine Q0q ?_)|((with_reducible apply Q0d);rfl;rfl;all_goals(intro hc;first|(cases hc;done)|(try simp only at hc))))))
     show AWZ _ _ _ _ _ _ _
     refine AWZ.of (AWE.of ?_)
     (repeat(any_goals(first|((with_reducible refine Q0b ?_ ?_);rfl;intro K hK;simp(disch:=omega) only[go_sem,k7,wrI];((repeat(refine ndI (by first|assumption|rfl) ?_));refine hK _ ?_;clear hK K))|(with_reducible first|(refine Q0c ?_;refine hR _ ?_;clear hR R)|(refine Q0a ?_;intro R hR)))))
     exact fin _ hd (St.to.of_le (St.le_of (by simp[leT]) (by simp[leH,hget])))
 · rw[List.drop_eq_nil_of_le hge] at hd
   cases hd
def Q5s(c:Cs):Bk:=match Q6p c with|b::_=>b|[]=>⟨0,0,0⟩
def Q5r(c:Cs):Int:=if Q2z c=true then(match brkC c with|_::_=>321|[]=>0) else 320
abbrev bkE(b:Bk)(e:Int):AV:=.tup [bkA b,vi .i64 e]
theorem Z0j(c:Cs)(ks:List PV)(m f:Bool)(h:Fn Tryz.prog 43 [.agg [vi .u64 c.snd,phs false c.ph,asl false c.cd]] [] (.ep ks) [])(br:Fn Tryz.prog 61 [.ep ks] [] (.fn 94 [.ptr 1 0]) [(1,[.ep ks])])(b:Bk)
 (F:∀{t:Tmp} {asg bod:Code} {T0:List AV} (hT0:AV.inNL [1002,1003] T0=true) (lp:Nat) (c2 c3 d2 d3:List AV)
 (hren:∀r,AV.refsL r c2=false∧AV.refsL r c3=false) (hc2:AV.renL (fun r=>r) c2=c2) (hc3:AV.renL (fun r=>r) c3=c3) (hd2:AV.renL (fun r=>r) d2=d2) (hd3:AV.renL (fun r=>r) d3=d3) (hin:inH [1002,1003] [(1002,d2),(1003,d3)]=true)
 (hY:YZ Tryz.prog t asg bod T0 lp (bkA b) [(1002,c2),(1003,c3)] [(1002,d2),(1003,d3)]),
 FnZ (LoopAt t asg bod T0 [1002,1003,1101] lp) (Stop t asg bod lp) Tryz.prog 94 [yv lp,.ptr 1101 0] [(1002,c2),(1003,c3),(1101,[.ep ks])] (.tup []) [(1002,d2),(1003,d3)]) :
 Fn Tryz.prog 27 [csA c] [] (bkE b 321) []:=by
 (refine Q0t Tryz.func27 rfl (by rfl) ?_;simp only[Tryz.ntmps27,List.length_cons,List.length_nil,Nat.reduceAdd,Nat.reduceSub,List.replicate,List.cons_append,List.nil_append])
 (repeat(any_goals(first|((with_reducible refine Q2n ?_ ?_);rfl;intro K hK;(first|(apply Q3f;rfl;rfl;kernel_rfl;rfl));(simp only[go_sem];refine hK _ ?_;clear hK K))|((with_reducible refine Q0l ?_ ?_ ?_);rfl;rfl;intro K hK;(first|((apply Q0i (h);rfl;rfl;rfl;rfl;exact Tryz.func43);kernel_rfl;rfl;(focus((simp only[go_sem]);(try rfl);done));(first|rfl))|(apply Q1c (br) (fun r=>r+99);rfl;rfl;rfl;rfl;exact Tryz.func61;kernel_rfl;rfl;rfl;(intro r hr q hq h;simp only[List.map_cons,List.map_nil,List.cons_append,List.nil_append,List.mem_cons,List.not_mem_nil,or_false] at hr hq;(try dsimp only at h);first|omega);(simp only[Q1d,Q1x,AV.ren,AV.renL,Q0r,List.mem_cons,List.not_mem_nil,forall_eq_or_imp,forall_eq,Q1r,List.contains_cons,List.contains_nil,AV.refsL,AV.refs,Q0o,AV.inN,AV.inNL,inH,Q0v,go_sem])));(simp only[Q0u,Q1m,renH,AV.ren,AV.renL,Q0r,go_sem];refine hK _ ?_;clear hK K))|((with_reducible refine Q0b ?_ ?_);rfl;intro K hK;simp only[go_sem];((repeat(refine ndI (by first|assumption) ?_));refine hK _ ?_;clear hK K))|(with_reducible first|(refine Q0c ?_;refine hR _ ?_;clear hR R)|((first|refine Q0e ?_|refine Q0f ?_);intro J hJ hJ')|(refine Q0a ?_;intro R hR)|(refine hJ _ ?_;clear hJ hJ' J)|refine Q0h ?_)|((with_reducible apply Q0d);rfl;rfl;all_goals(intro hc;first|(cases hc;done)|(try simp only at hc))))))
 show AW _ _ _ _
 refine AW.rangeRet (T0:=[.any,.any,.ptr 1002 0,.ptr 1003 0,.any,.any,.any,.any,.any,.any,.any,.any,.any,.any,.any,.any]) (cargs:=[.ptr 1101 0]) (H0:=[(1002,[vi .i64 0,vi .i64 0,vi .i64 0]),(1003,[vi .i64 0]),(1101,[.ep ks])]) (H1:=[(1002,[vi .i64 b.i,vi .i64 b.j,vi .i64 b.r]),(1003,[vi .i64 321])]) (res:=.tup []) (fun r=>if r=1101 then 100 else if 1000≤r then r-1000 else r) (fun lp=>F rfl lp _ _ _ _ (fun _=>⟨rfl,rfl⟩) rfl rfl rfl rfl rfl (yz_of rfl rfl ?_)) rfl rfl Tryz.func94 (by kernel_rfl) rfl rfl ?_ ?_ ?_ ?_ ?_ rfl ?_ ?_
 · simp only[List.set]
   (repeat(any_goals(first|((with_reducible refine Q0b ?_ ?_);rfl;intro K hK;simp only[go_sem];((repeat(refine ndI (by first|assumption) ?_));refine hK _ ?_;clear hK K))|(with_reducible first|(refine Q0c ?_;refine hR _ ?_;clear hR R)|(refine Q0a ?_;intro R hR)))))
   refine⟨rfl,?_⟩
   (repeat(any_goals(first|((with_reducible refine Q0b ?_ ?_);rfl;intro K hK;simp only[go_sem];((repeat(refine ndI (by first|assumption) ?_));refine hK _ ?_;clear hK K))|(with_reducible first|(refine Q0c ?_;refine hR _ ?_;clear hR R)|((first|refine Q0e ?_|refine Q0f ?_);intro J hJ hJ')|(refine Q0a ?_;intro R hR)|(refine hJ _ ?_;clear hJ hJ' J)|refine Q0j ?_)|((with_reducible refine hJ' _ _ ?_ ?_);(focus(simp;done));clear hJ hJ' J))))
   exact⟨rfl,Q0g (by simp[leH,hget])⟩
 · simp[Q1d,Q1x,AV.ren]
 · simp[Q1d,Q1x,AV.ren]
 · simp[hget,AV.renL,AV.ren]
 · intro r hr q hq h
   simp only[List.map_cons,List.map_nil,List.cons_append,List.nil_append,List.mem_cons,List.not_mem_nil,or_false] at hr hq
   rcases hr with rfl|rfl|rfl|rfl|rfl<;>rcases hq with rfl|rfl|rfl|rfl|rfl<;>simp at h ⊢
 · simp[Q1r,St.free,Q1z,AV.refs,AV.refsL]
 · simp[inH,AV.inNL,AV.inN]
 · simp only[Q0u,Q1m,renH,AV.ren,AV.renL,Q0r,hput,hdel,hget,Nat.reduceLeDiff,Nat.reduceSub,Nat.reduceEqDiff,↓reduceIte]
   (repeat(any_goals(first|((with_reducible refine hJ' _ _ ?_ ?_);(focus(simp;done));clear hJ hJ' J))))
   all_goals(refine⟨by simp,⟨_,?_,AV.le_refl _⟩,Q0g (by simp[leH,hget])⟩;simp only[Tryz.results27,resL,ldA,Q0m,go_sem])
abbrev stZn(ks:List PV)(ph:List Ph)(lp:Nat)(i:Nat):St:=⟨[yv lp,.ptr 1101 0,.any,.any,.any,.any,.any,.any,.any,.any,.any,phs false ph,vi .i64 ph.length,vi .i64 i,.any,.any,.any,.any,.any,.any,.any,.any,.any,.any,.any,.any,.any,.any,.any,.any,.any,.any,.any,.any,.any,.any,.any,.any,.any,.any,.any],[(1101,[.ep ks])]⟩
abbrev stYn(ks:List PV)(ph:List Ph)(p:Ph)(lp:Nat)(i j:Nat):St:=⟨[yv lp,.ptr 1101 0,.any,vi .i64 i,.ptr 4 0,.any,.any,.any,.any,.any,.any,phs false ph,vi .i64 ph.length,vi .i64 i,.any,.any,.any,.any,.any,.any,vi .i64 p.tr.length,vi .i64 j,.any,.any,.any,.any,.any,.any,.any,.any,.any,.any,.any,.any,.any,.any,.any,.any,.any,.any,.any],[(1101,[.ep ks]),(4,[vi .i64 p.role,vi .u64 p.who,vb p.stk,evs false p.tr])]⟩
theorem brkN_fn(q:Env→Prop)(snd:Int)(ph:List Ph)(cs:List PV)(R:Ph→Nat→Ev→Int)(hl:ph.length≤1000)(hp:∀p∈ph,p.tr.length≤1000)
 (hRu:∀p∈ph,∀(j:Nat) (e:Ev),p.tr[j]? = some e→Fn Tryz.prog 68 [.ep (.v (.int .u64 snd) :: .sl false 4 ph.length (ph.flatMap Ph.pv)::cs),phA p,vi .i64 j] [] (vi .i64 (R p j e)) [])
 (lp:Nat) (hf:brkG R ph 0=[]) :
 FnW q Tryz.prog 94 [yv lp,.ptr 1101 0] [(1101,[.ep (.v (.int .u64 snd) :: .sl false 4 ph.length (ph.flatMap Ph.pv)::cs)])] (.tup []) []:=by
 obtain⟨ks,hks⟩:∃ks,(.v (.int .u64 snd) :: .sl false 4 ph.length (ph.flatMap Ph.pv)::cs)=ks:=⟨_,rfl⟩
 rw[hks] at hRu
 have hno:∀(i:Nat) (p:Ph) (j:Nat) (e:Ev),ph[i]? = some p→p.tr[j]? = some e→decide (R p j e>0)=false:=fun i p j e h1 h2=>by
  rw[decide_eq_false_iff_not]
  intro h
  have:=brk_mem R h1 h2 h
  rw[hf] at this
  cases this
 (refine Q4r Tryz.func94 rfl (by rfl) ?_;simp only[Tryz.ntmps94,List.length_cons,List.length_nil,Nat.reduceAdd,Nat.reduceSub,List.replicate,List.cons_append,List.nil_append])
 refine AWE.seq (AWE.of ?_)
 (repeat(any_goals(first|((with_reducible refine Q0b ?_ ?_);rfl;intro K hK;simp only[go_sem];((repeat(refine ndI (by first|assumption|omega) ?_));refine hK _ ?_;clear hK K))|(with_reducible first|(refine Q0c ?_;refine hR _ ?_;clear hR R)|(refine Q0a ?_;intro R hR)))))
 rw[hks]
 show AWE _ _ _ _ _
 refine AWE.block ?_
 refine AWE.loop (α:={i:Nat // i≤ph.length}) (fun q=>stZn ks ph lp q.1) (fun q=>ph.length-q.1) ⟨0,Nat.zero_le _⟩ ?_ ?_
 · exact St.to.of_le (St.le_of (by simp[leT]) (by simp[leH,hget,hput]))
 rintro ⟨i,hi⟩
 dsimp only[stZn]
 rcases Nat.lt_or_ge i ph.length with hlt|hge
 · obtain⟨y,hy⟩:∃y,ph[i]? = some y:=⟨ph[i],List.getElem?_eq_getElem hlt⟩
   have k1:(decide ((i:Int)<(ph.length:Int)))=true:=by simpa using hlt
   have k2:=Q4x hy
   have k7:(i:Int)+1=((i+1:Nat):Int):=by omega
   have hm:=List.mem_of_getElem? hy
   have hRy:=hRu y hm
   have hyl:=hp y hm
   have fin:∀τ : St,τ.to (stZn ks ph lp (i+1))→∃q:{i:Nat // i≤ph.length},ph.length-q.1<ph.length-i∧τ.to (stZn ks ph lp q.1):=fun τ h=>⟨⟨i+1,hlt⟩,by simp only;omega,h⟩
   refine AWE.seq (AWE.of ?_)
   (repeat(any_goals(first|((with_reducible refine Q0b ?_ ?_);rfl;intro K hK;simp only[go_sem,k1];((repeat(refine ndI (by first|assumption) ?_));refine hK _ ?_;clear hK K))|(with_reducible first|(refine Q0c ?_;refine hR _ ?_;clear hR R)|(refine Q0a ?_;intro R hR)))))
   refine AWE.seq (AWE.of ?_)
   (repeat(any_goals(first|(with_reducible first|refine Q0h ?_)|((with_reducible apply Q0d);rfl;rfl;all_goals(intro hc;first|(cases hc;done)|(try simp only at hc))))))
   refine AWE.seq (AWE.block (AWE.seq (AWE.of ?_)))
   (repeat(any_goals(first|((with_reducible refine Q0b ?_ ?_);rfl;intro K hK;simp(disch:=omega) only[go_sem,k1,k2,k7,wrI];((repeat(refine ndI (by first|assumption|omega|rfl) ?_));refine hK _ ?_;clear hK K))|(with_reducible first|(refine Q0c ?_;refine hR _ ?_;clear hR R)|(refine Q0a ?_;intro R hR)))))
   refine AWE.seq (AWE.of ?_)
   (repeat(any_goals(first|((with_reducible refine Q0b ?_ ?_);rfl;intro K hK;simp(disch:=omega) only[go_sem,k1,k2,k7,wrI];((repeat(refine ndI (by first|assumption|rfl) ?_));refine hK _ ?_;clear hK K))|(with_reducible first|(refine Q0c ?_;refine hR _ ?_;clear hR R)|(refine Q0a ?_;intro R hR)))))
   refine AWE.block ?_
   refine AWE.loop (α:={j:Nat // j≤y.tr.length}) (fun q=>stYn ks ph y lp i q.1) (fun q=>y.tr.length-q.1) ⟨0,Nat.zero_le _⟩ ?_ ?_
   · exact St.to.of_le (St.le_of (by simp[leT]) (by simp[leH,hget,hput]))
   rintro ⟨j,hj⟩
   dsimp only[stYn]
   rcases Nat.lt_or_ge j y.tr.length with hjt|hje
   · obtain⟨e,he⟩:∃e,y.tr[j]? = some e:=⟨y.tr[j],List.getElem?_eq_getElem hjt⟩
     have c1:(decide ((j:Int)<(y.tr.length:Int)))=true:=by simpa using hjt
     have c7:(j:Int)+1=((j+1:Nat):Int):=by omega
     have rl:=hRy j e he
     have hb:=hno i y j e hy he
     have fin2:∀τ : St,τ.to (stYn ks ph y lp i (j+1))→∃q:{j:Nat // j≤y.tr.length},y.tr.length-q.1<y.tr.length-j∧τ.to (stYn ks ph y lp i q.1):=fun τ h=>⟨⟨j+1,hjt⟩,by simp only;omega,h⟩
     clear fin
     generalize R y j e=z at rl hb
     refine AWE.seq (AWE.of ?_)
     (repeat(any_goals(first|((with_reducible refine Q0b ?_ ?_);rfl;intro K hK;simp only[go_sem,c1];((repeat(refine ndI (by first|assumption) ?_));refine hK _ ?_;clear hK K))|(with_reducible first|(refine Q0c ?_;refine hR _ ?_;clear hR R)|(refine Q0a ?_;intro R hR)))))
     refine AWE.seq (AWE.of ?_)
     (repeat(any_goals(first|(with_reducible first|refine Q0h ?_)|((with_reducible apply Q0d);rfl;rfl;all_goals(intro hc;first|(cases hc;done)|(try simp only at hc))))))
     refine AWE.seq (AWE.block (AWE.seq (AWE.of ?_)))
     (repeat(any_goals(first|((with_reducible refine Q0b ?_ ?_);rfl;intro K hK;simp(disch:=omega) only[go_sem,c1,c7,wrI];((repeat(refine ndI (by first|assumption|rfl) ?_));refine hK _ ?_;clear hK K))|(with_reducible first|(refine Q0c ?_;refine hR _ ?_;clear hR R)|(refine Q0a ?_;intro R hR)))))
     refine AWE.seq (AWE.of ?_)
     (repeat(any_goals(first|((with_reducible refine Q0l ?_ ?_ ?_);rfl;rfl;intro K hK;((apply Q0i (rl);rfl;rfl;rfl;rfl;exact Tryz.func68);kernel_rfl;rfl;(focus((simp(disch:=omega) only[go_sem,c1,c7,wrI]);(try rfl);done));(first|rfl));(simp(disch:=omega) only[go_sem,c1,c7,wrI];refine hK _ ?_;clear hK K))|((with_reducible refine Q0b ?_ ?_);rfl;intro K hK;simp(disch:=omega) only[go_sem,c1,c7,wrI];((repeat(refine ndI (by first|assumption|rfl) ?_));refine hK _ ?_;clear hK K))|(with_reducible first|(refine Q0c ?_;refine hR _ ?_;clear hR R)|(refine Q0a ?_;intro R hR)))))
     refine AWE.seq (AWE.of ?_)
     (repeat(any_goals(first|((with_reducible refine Q0b ?_ ?_);rfl;intro K hK;simp(disch:=omega) only[go_sem,c7,hb,wrI];((repeat(refine ndI (by first|assumption|rfl) ?_));refine hK _ ?_;clear hK K))|(with_reducible first|(refine Q0c ?_;refine hR _ ?_;clear hR R)|(refine Q0a ?_;intro R hR))|((with_reducible apply Q0p);rfl;rfl;rfl;all_goals(intro hb;first|(cases hb;done)|((try simp only[Bool.not_true,Bool.not_false] at hb);(first|((fail_if_success (with_reducible intro _));simp(disch:=omega) only[go_sem,c7,hb,wrI]))))))))
     show AWE _ _ _ _ _
     refine AWE.of ?_
     (repeat(any_goals(first|(with_reducible first|refine Q0h ?_)|((with_reducible apply Q0d);rfl;rfl;all_goals(intro hc;first|(cases hc;done)|(try simp only at hc))))))
     show AWE _ _ _ _ _
     refine AWE.of ?_
     (repeat(any_goals(first|((with_reducible refine Q0b ?_ ?_);rfl;intro K hK;simp(disch:=omega) only[go_sem,c7,wrI];((repeat(refine ndI (by first|assumption|rfl) ?_));refine hK _ ?_;clear hK K))|(with_reducible first|(refine Q0c ?_;refine hR _ ?_;clear hR R)|(refine Q0a ?_;intro R hR)))))
     exact fin2 _ (St.to.of_le (St.le_of (by simp[leT]) (by simp[leH,hget])))
   · have c1:(decide ((j:Int)<(y.tr.length:Int)))=false:=by simpa using hje
     refine AWE.seq (AWE.of ?_)
     (repeat(any_goals(first|((with_reducible refine Q0b ?_ ?_);rfl;intro K hK;simp only[go_sem,c1];((repeat(refine ndI (by first|assumption) ?_));refine hK _ ?_;clear hK K))|(with_reducible first|(refine Q0c ?_;refine hR _ ?_;clear hR R)|(refine Q0a ?_;intro R hR)))))
     refine AWE.seq (AWE.of ?_)
     (repeat(any_goals(first|(with_reducible first|refine Q0q ?_)|((with_reducible apply Q0d);rfl;rfl;all_goals(intro hc;first|(cases hc;done)|(try simp only at hc))))))
     show AWE _ _ _ _ _
     refine AWE.of ?_
     (repeat(any_goals(first|((with_reducible refine Q0b ?_ ?_);rfl;intro K hK;simp(disch:=omega) only[go_sem,k7,wrI];((repeat(refine ndI (by first|assumption|rfl) ?_));refine hK _ ?_;clear hK K))|(with_reducible first|(refine Q0c ?_;refine hR _ ?_;clear hR R)|(refine Q0a ?_;intro R hR)))))
     exact fin _ (St.to.of_le (St.le_of (by simp[leT]) (by simp[leH,hget])))
 · have k1:(decide ((i:Int)<(ph.length:Int)))=false:=by simpa using hge
   refine AWE.seq (AWE.of ?_)
   (repeat(any_goals(first|((with_reducible refine Q0b ?_ ?_);rfl;intro K hK;simp only[go_sem,k1];((repeat(refine ndI (by first|assumption) ?_));refine hK _ ?_;clear hK K))|(with_reducible first|(refine Q0c ?_;refine hR _ ?_;clear hR R)|(refine Q0a ?_;intro R hR)))))
   refine AWE.seq (AWE.of ?_)
   (repeat(any_goals(first|(with_reducible first|refine Q0q ?_)|((with_reducible apply Q0d);rfl;rfl;all_goals(intro hc;first|(cases hc;done)|(try simp only at hc))))))
   exact⟨by simp,⟨_,rfl,AV.le_of (by simp[Q0m])⟩,Q0g (by simp[leH,hget])⟩
theorem Z0k(c:Cs)(ks:List PV)(h:Fn Tryz.prog 43 [.agg [vi .u64 c.snd,phs false c.ph,asl false c.cd]] [] (.ep ks) [])(br:Fn Tryz.prog 61 [.ep ks] [] (.fn 94 [.ptr 1 0]) [(1,[.ep ks])])
 (F:∀(q:Env→Prop) (lp:Nat),FnW q Tryz.prog 94 [yv lp,.ptr 1101 0] [(1101,[.ep ks])] (.tup []) []) :
 Fn Tryz.prog 27 [csA c] [] (bkE ⟨0,0,0⟩ 0) []:=by
 (refine Q0t Tryz.func27 rfl (by rfl) ?_;simp only[Tryz.ntmps27,List.length_cons,List.length_nil,Nat.reduceAdd,Nat.reduceSub,List.replicate,List.cons_append,List.nil_append])
 (repeat(any_goals(first|((with_reducible refine Q2n ?_ ?_);rfl;intro K hK;(first|(apply Q3f;rfl;rfl;kernel_rfl;rfl));(simp only[go_sem];refine hK _ ?_;clear hK K))|((with_reducible refine Q0l ?_ ?_ ?_);rfl;rfl;intro K hK;(first|((apply Q0i (h);rfl;rfl;rfl;rfl;exact Tryz.func43);kernel_rfl;rfl;(focus((simp only[go_sem]);(try rfl);done));(first|rfl))|(apply Q1c (br) (fun r=>r+99);rfl;rfl;rfl;rfl;exact Tryz.func61;kernel_rfl;rfl;rfl;(intro r hr q hq h;simp only[List.map_cons,List.map_nil,List.cons_append,List.nil_append,List.mem_cons,List.not_mem_nil,or_false] at hr hq;(try dsimp only at h);first|omega);(simp only[Q1d,Q1x,AV.ren,AV.renL,Q0r,List.mem_cons,List.not_mem_nil,forall_eq_or_imp,forall_eq,Q1r,List.contains_cons,List.contains_nil,AV.refsL,AV.refs,Q0o,AV.inN,AV.inNL,inH,Q0v,go_sem])));(simp only[Q0u,Q1m,renH,AV.ren,AV.renL,Q0r,go_sem];refine hK _ ?_;clear hK K))|((with_reducible refine Q0b ?_ ?_);rfl;intro K hK;simp only[go_sem];((repeat(refine ndI (by first|assumption) ?_));refine hK _ ?_;clear hK K))|(with_reducible first|(refine Q0c ?_;refine hR _ ?_;clear hR R)|((first|refine Q0e ?_|refine Q0f ?_);intro J hJ hJ')|(refine Q0a ?_;intro R hR)|(refine hJ _ ?_;clear hJ hJ' J)|refine Q0h ?_)|((with_reducible apply Q0d);rfl;rfl;all_goals(intro hc;first|(cases hc;done)|(try simp only at hc))))))
 show AW _ _ _ _
 refine AW.range (T0:=[.any,.any,.any,.any,.any,.any,.any,.any,.any,.any,.any,.any,.any,.any,.any,.any]) (cargs:=[.ptr 1101 0]) (H0:=[(1101,[.ep ks])]) (H1:=[]) (res:=.tup []) (fun r=>if r=1101 then 100 else r) (fun lp=>F _ lp) rfl rfl Tryz.func94 (by kernel_rfl) rfl rfl ?_ ?_ ?_ ?_ ?_ rfl ?_ ?_
 · simp[Q1d,Q1x,AV.ren]
 · simp[Q1d,Q1x,AV.ren]
 · simp[hget,AV.renL,AV.ren]
 · intro r hr q hq h
   simp only[List.map_cons,List.map_nil,List.cons_append,List.nil_append,List.mem_cons,List.not_mem_nil,or_false] at hr hq
   rw[hr,hq]
 · simp[Q1r,St.free,Q1z,AV.refs,AV.refsL]
 · simp[inH,AV.inNL,AV.inN]
 · simp only[Q0u,Q1m,renH,AV.ren,AV.renL,Q0r,hput,hdel,hget,Nat.reduceLeDiff,Nat.reduceSub,Nat.reduceEqDiff,↓reduceIte]
   (repeat(any_goals(first|((with_reducible refine Q0b ?_ ?_);rfl;intro K hK;simp only[go_sem];((repeat(refine ndI (by first|assumption) ?_));refine hK _ ?_;clear hK K))|(with_reducible first|(refine Q0c ?_;refine hR _ ?_;clear hR R)|((first|refine Q0e ?_);intro J hJ hJ')|(refine Q0a ?_;intro R hR)|(refine hJ _ ?_;clear hJ hJ' J)|refine Q0j ?_)|((with_reducible refine hJ' _ _ ?_ ?_);(focus(simp;done));clear hJ hJ' J))))
   all_goals(refine⟨by simp,⟨_,?_,AV.le_refl _⟩,Q0g (by simp[leH,hget])⟩;simp only[Tryz.results27,resL,ldA,Q0m,go_sem])
theorem holds_fnR(c:Cs)(hc:c.ok)(hRu:Q2z c=true→∀p∈c.ph,∀(j:Nat) (e:Ev),p.tr[j]? = some e→Fn Tryz.prog 68 [ktP c (ofM c) (ofF c),phA p,vi .i64 j] [] (vi .i64 (Q5l c p j e)) []):Fn Tryz.prog 27 [csA c] [] (bkE (Q5s c) (Q5r c)) []:=by
 unfold Q5s Q5r Q6p
 cases hr:Q2z c with
 |false=>
  have h:=X3e c hc hr
  change Fn _ _ [.agg [vi .u64 c.snd,phs false c.ph,asl false c.cd]] _ _ _ at h
  simp only[Bool.false_eq_true,if_false]
  clear hr hc hRu
  (refine Q0t Tryz.func27 rfl (by rfl) ?_;simp only[Tryz.ntmps27,List.length_cons,List.length_nil,Nat.reduceAdd,Nat.reduceSub,List.replicate,List.cons_append,List.nil_append])
  (repeat(any_goals(first|((with_reducible refine Q2n ?_ ?_);rfl;intro K hK;(first|(apply X2b;rfl;rfl;kernel_rfl;rfl));(simp only[go_sem];refine hK _ ?_;clear hK K))|((with_reducible refine Q0l ?_ ?_ ?_);rfl;rfl;intro K hK;((apply Q0i (h);rfl;rfl;rfl;rfl;exact Tryz.func43);kernel_rfl;rfl;(focus((simp only[go_sem]);(try rfl);done));(first|rfl));(simp only[go_sem];refine hK _ ?_;clear hK K))|((with_reducible refine Q0b ?_ ?_);rfl;intro K hK;simp only[go_sem];((repeat(refine ndI (by first|assumption) ?_));refine hK _ ?_;clear hK K))|(with_reducible first|(refine Q0c ?_;refine hR _ ?_;clear hR R)|((first|refine Q0e ?_);intro J hJ hJ')|(refine Q0a ?_;intro R hR)|(refine hJ _ ?_;clear hJ hJ' J)|refine Q0j ?_)|((with_reducible refine hJ' _ _ ?_ ?_);(focus(simp;done));clear hJ hJ' J)|((with_reducible apply Q0d);rfl;rfl;all_goals(intro hc;first|(cases hc;done)|(try simp only at hc))))))
  all_goals(refine⟨by simp,⟨_,?_,AV.le_refl _⟩,Q0g (by simp[leH,hget])⟩;simp only[Tryz.results27,resL,ldA,Q0m,go_sem])
 |true=>
  simp only[if_true]
  have h:=Q5z c hc hr
  change Fn _ _ [.agg [vi .u64 c.snd,phs false c.ph,asl false c.cd]] _ (.ep (ktL c)) _ at h
  have br:=X5p (ktL c)
  have hRu:=hRu hr
  cases hb:brkC c with
  |nil=>exact Z0k c (ktL c) h br fun q lp=>brkN_fn q c.snd c.ph [.sl false 1 c.cd.length (c.cd.flatMap apv),.v (.bool (ofM c)),.v (.bool (ofF c))] (Q5l c) hc.2.1.1 (fun p hp=>(hc.2.1.2 p hp).2.1) hRu lp hb
  |cons b rest=>exact Z0j c (ktL c) false false h br b fun hT0 lp c2 c3 d2 d3 hren hc2 hc3 hd2 hd3 hin hY=>brkZ_fn c.snd c.ph [.sl false 1 c.cd.length (c.cd.flatMap apv),.v (.bool (ofM c)),.v (.bool (ofF c))] (Q5l c) hc.2.1.1 (fun p hp=>(hc.2.1.2 p hp).2.1) hRu hT0 lp b rest hb c2 c3 d2 d3 hren hc2 hc3 hd2 hd3 hin hY
theorem X2o(c:Cs)(hc:c.ok):Fn Tryz.prog 27 [csA c] [] (bkE (Q5s c) (Q5r c)) []:=
 holds_fnR c hc fun hr p hp j e he=>X5y c hc (X0d hr) p (hc.2.1.2 p hp) j e he
end
section
open Go.RowKit
open Nat (reduceBEq)
attribute [-go_sem] IntKind.bits
set_option maxRecDepth 20000
set_option maxHeartbeats 2000000
end
section
open Go.RowKit
open Nat (reduceBEq)
attribute [-go_sem] IntKind.bits
set_option maxRecDepth 20000
set_option maxHeartbeats 2000000
theorem raS_at{l:List Sp}{i:Nat}{y:Sp}(h:l[i]? = some y):((raS l).drop (i*5)).take 5=[vi .u64 y.a,vi .u64 (l0 y.k),vi .u64 (l1 y.k),vi .u64 (l2 y.k),vi .u64 (l3 y.k)]:=rcS_at h
theorem idxSc_fn (c:Nat) (ex:Bool) (l:List Sp) (hlc:l.length≤c) (hcm:c≤maxLen) (p:Sp→Bool) (cs:List PV) {g:FuncId} {fn:Func} (hl:l.length≤1000000) (hgf:Tryz.prog.funcs[g]? = some fn) (hgn:(fn.name == "runtime.NumGoroutine")=false) (hgb:fn.body.isNone=false)
 (hp:∀x∈l,Fn Tryz.prog g [spA x,.ptr 1001 0] [(1001,[.ep cs])] (vb (p x)) [(1001,[.ep cs])]) :
 Fn Tryz.prog 72 [.cut 1000 37 5 0 l.length c ex,.fn g [.ptr 1001 0]] [(1000,raS l),(1001,[.ep cs])] (vi .i64 (idxF p l 0)) [(1000,raS l),(1001,[.ep cs])]:=by
 obtain⟨r,hr⟩:∃r,idxF p l 0=r:=⟨_,rfl⟩
 rw[hr]
 (refine Q0t Tryz.func72 rfl (by rfl) ?_;simp only[Tryz.ntmps72,List.length_cons,List.length_nil,Nat.reduceAdd,Nat.reduceSub,List.replicate,List.cons_append,List.nil_append])
 (repeat(any_goals(first|((with_reducible refine Q0b ?_ ?_);rfl;intro K hK;simp only[go_sem];((repeat(refine ndI (by first|assumption) ?_));refine hK _ ?_;clear hK K))|(with_reducible first|(refine Q0c ?_;refine hR _ ?_;clear hR R)|((first|refine Q0e ?_|refine Q0f ?_);intro J hJ hJ')|(refine Q0a ?_;intro R hR)|(refine hJ _ ?_;clear hJ hJ' J)))))
 refine Q1p (α:={i:Nat // i≤l.length∧idxF p (l.drop i) i=r}) (fun q=>⟨[.cut 1000 37 5 0 l.length c ex,.fn g [.ptr 1001 0],.any,.any,.any,.any,.any,vi .i64 l.length,vi .i64 (q.1:Int),.any,.any,.any,.any,.any,.any,.any,.any,.any,.any],[(1000,raS l),(1001,[.ep cs])]⟩) (fun q=>l.length-q.1) ⟨0,Nat.zero_le _,hr⟩ (St.le_of (by simp[leT]) (by simp[leH,hget])) ?_
 rintro ⟨i,hi,hd⟩ J hJ hJ'
 (try dsimp only at hJ ⊢)
 rcases Nat.lt_or_ge i l.length with hlt|hge
 · obtain⟨y,hy⟩:∃y,l[i]? = some y:=⟨_,List.getElem?_eq_getElem hlt⟩
   have k1:(decide ((i:Int)<(l.length:Int)))=true:=by simp;omega
   have k2:=raS_at hy
   have k3:=X6j l
   have k7:(i:Int)+1=((i+1:Nat):Int):=by omega
   have hdr:l.drop i=y::l.drop (i+1):=by
    rw[List.drop_eq_getElem_cons hlt]
    rw[List.getElem?_eq_getElem hlt] at hy
    rw[Option.some.inj hy]
   have hp1:=hp y (List.mem_of_getElem? hy)
   rw[hdr] at hd
   unfold idxF at hd
   have r9:∀r,AV.refsL r (raS l)=false:=fun r=>Q0o r _
   cases hxy:p y
   · rw[hxy] at hp1 hd
     rw[if_neg (by simp)] at hd
     have hJ1:=fun σ'=>hJ σ' ⟨i+1,hlt,hd⟩ (by dsimp only;omega)
     dsimp only at hJ1
     (have W:=ndI k1 (ndI k2 (ndI k3 (ndI k7 (ndI r9 @wrI))));(repeat(any_goals(first|((with_reducible refine Q0l ?_ ?_ ?_);rfl;rfl;intro K hK;(apply Q1c (hp1) (fun r=>r);rfl;rfl;rfl;rfl;exact hgf;exact hgn;exact hgb;rfl;(intro r hr q hq h;simp(disch:=omega) only[List.map_cons,List.map_nil,List.cons_append,List.nil_append,List.mem_cons,List.not_mem_nil,or_false] at hr hq;(try dsimp only at h);first|omega);(simp(disch:=omega) only[Q1d,Q1x,AV.ren,AV.renL,Q0r,List.mem_cons,List.not_mem_nil,forall_eq_or_imp,forall_eq,Q1r,List.contains_cons,List.contains_nil,AV.refsL,AV.refs,Q0o,AV.inN,AV.inNL,inH,Q0v,go_sem,W]));(simp(disch:=omega) only[Q0u,Q1m,renH,AV.ren,AV.renL,Q0r,go_sem,W];refine hK _ ?_;clear hK K))|((with_reducible refine Q0b ?_ ?_);rfl;intro K hK;simp(disch:=omega) only[go_sem,W];((repeat(refine ndI (by first|assumption|omega|rfl) ?_));refine hK _ ?_;clear hK K))|((with_reducible refine Q0b ?_ ?_);rfl;intro K hK;(try simp(disch:=omega) only[go_sem,W]);(repeat(refine ndI (by first|assumption|rfl) ?_));refine Q4b rfl rfl rfl rfl rfl ?_ ?_ ?_;(focus(simp only[go_sem];try rfl));(first|omega);(simp(disch:=omega) only[go_sem,W];refine hK _ ?_;clear hK K))|(with_reducible first|(refine Q0c ?_;refine hR _ ?_;clear hR R)|((first|refine Q0e ?_|refine Q0f ?_);intro J hJ hJ')|(refine Q0a ?_;intro R hR)|(refine hJ _ ?_;clear hJ hJ' J)|refine Q0h ?_)|((with_reducible refine hJ' _ _ ?_ ?_);(focus(simp;done));clear hJ hJ' J)|((with_reducible apply Q0d);rfl;rfl;all_goals(intro hc;first|(cases hc;done)|(try simp only at hc)))))))
     all_goals exact hJ1 _ (St.le_of (by simp[leT]) (by simp[leH,hget]))
   · rw[hxy] at hp1 hd
     rw[if_pos rfl] at hd
     (have W:=ndI k1 (ndI k2 (ndI k3 (ndI k7 (ndI r9 @wrI))));(repeat(any_goals(first|((with_reducible refine Q0l ?_ ?_ ?_);rfl;rfl;intro K hK;(apply Q1c (hp1) (fun r=>r);rfl;rfl;rfl;rfl;exact hgf;exact hgn;exact hgb;rfl;(intro r hr q hq h;simp(disch:=omega) only[List.map_cons,List.map_nil,List.cons_append,List.nil_append,List.mem_cons,List.not_mem_nil,or_false] at hr hq;(try dsimp only at h);first|omega);(simp(disch:=omega) only[Q1d,Q1x,AV.ren,AV.renL,Q0r,List.mem_cons,List.not_mem_nil,forall_eq_or_imp,forall_eq,Q1r,List.contains_cons,List.contains_nil,AV.refsL,AV.refs,Q0o,AV.inN,AV.inNL,inH,Q0v,go_sem,W]));(simp(disch:=omega) only[Q0u,Q1m,renH,AV.ren,AV.renL,Q0r,go_sem,W];refine hK _ ?_;clear hK K))|((with_reducible refine Q0b ?_ ?_);rfl;intro K hK;simp(disch:=omega) only[go_sem,W];((repeat(refine ndI (by first|assumption|omega|rfl) ?_));refine hK _ ?_;clear hK K))|((with_reducible refine Q0b ?_ ?_);rfl;intro K hK;(try simp(disch:=omega) only[go_sem,W]);(repeat(refine ndI (by first|assumption|rfl) ?_));refine Q4b rfl rfl rfl rfl rfl ?_ ?_ ?_;(focus(simp only[go_sem];try rfl));(first|omega);(simp(disch:=omega) only[go_sem,W];refine hK _ ?_;clear hK K))|(with_reducible first|(refine Q0c ?_;refine hR _ ?_;clear hR R)|((first|refine Q0e ?_|refine Q0f ?_);intro J hJ hJ')|(refine Q0a ?_;intro R hR)|(refine hJ _ ?_;clear hJ hJ' J)|refine Q0h ?_|refine Q0j ?_)|((with_reducible refine hJ' _ _ ?_ ?_);(focus(simp;done));clear hJ hJ' J)|((with_reducible apply Q0d);rfl;rfl;all_goals(intro hc;first|(cases hc;done)|(try simp only at hc)))))))
     all_goals rw[←hd]
     all_goals(refine⟨by simp,⟨_,?_,AV.le_refl _⟩,Q0g (by simp[leH,hget])⟩;simp only[Tryz.results72,resL,ldA,Q0m,go_sem])
 · have k1:(decide ((i:Int)<(l.length:Int)))=false:=by simp;omega
   rw[List.drop_eq_nil_of_le hge] at hd
   have hd:r = -1:=hd.symm
   (repeat(any_goals(first|((with_reducible refine Q0b ?_ ?_);rfl;intro K hK;simp only[go_sem,k1];((repeat(refine ndI (by first|assumption) ?_));refine hK _ ?_;clear hK K))|(with_reducible first|(refine Q0c ?_;refine hR _ ?_;clear hR R)|((first|refine Q0e ?_);intro J hJ hJ')|(refine Q0a ?_;intro R hR)|(refine hJ _ ?_;clear hJ hJ' J)|refine Q0j ?_|refine Q0q ?_)|((with_reducible refine hJ' _ _ ?_ ?_);(focus(simp;done));clear hJ hJ' J)|((with_reducible apply Q0d);rfl;rfl;all_goals(intro hc;first|(cases hc;done)|(try simp only at hc))))))
   all_goals rw[hd]
   all_goals(refine⟨by simp,⟨_,?_,AV.le_refl _⟩,Q0g (by simp[leH,hget])⟩;simp only[Tryz.results72,resL,ldA,Q0m,go_sem])
end
section
open Go.RowKit
section
variable {P:Program} {o:Oper} {σ : St} {K:St→Prop}
theorem Q6i{s x:Operand}{t e r e0 lo sz by_ n c:Nat}{ex ex':Bool}{qs:List PV}(ho:o.op = .call {callee:=.builtin .append,args:=#[s,x],argTypes:=#[t,t]})(hs0:Q0k s=true)(hx0:Q0k x=true)(hz:slcZ P t=some (e,sz,by_))(h0:0<sz)
 (h1:σ.ev s = .cut r e0 sz lo n c ex) (h2:σ.ev x = .c (.sl ex' sz 0 qs)) (hK:K (σ.put o.dst (.cut r e0 sz lo n c ex))):OpA P o σ K:=by
 refine Q1g _ hK fun E ι a w h=>?_
 obtain⟨hu,i,z,hi,hiz,hsize,hbytes,hzs,hz1⟩:=Q4i hz
 have hsv:=h.ev s hs0
 have hxv:=h.ev x hx0
 rw[h1] at hsv
 rw[h2] at hxv
 generalize he:a.eval s=v at hsv
 generalize hex:a.eval x=y at hxv
 cases hxv with
 |c _ _ hq=>
  cases hq with
  |sl _ _ B _ c1 ws _ k1 k2 k3 kx kl kn k4 k5=>
   have hsrc:Src P i.size t (.slice B 0 c1) 0 [] w:=by
    cases B with
    |none=>
     obtain rfl:=k3 rfl
     exact Src.ofNil w hu 0
    |some a0=>exact Src.ofSlice w hu a0 0 c1 [] (by simp) (fun j u hu=>by cases hu) (fun u hu=>by cases hu)
   have hv:=hsv
   cases hsv with
   |cut _ _ _ _ _ _ _ g1 g2 g3 gx g4 g0=>
    refine⟨_,?_,hv⟩
    have hrun:=run_append_nothing w t t o.type e i hu hi (some ⟨(ι r).1,lo*sz,none⟩) n c g1 _ hsrc
    unfold execOp
    simp only[ho,resolve,invoke,builtin,Sem.run_bind,Sem.run_pure,Result.andThen_ok,List.map_toArray,List.map_cons,List.map_nil,he,hex,hrun]
   |cnil A _ _ _ _ _ g=>
    refine⟨_,?_,hv⟩
    have hrun:=run_append_nothing w t t o.type e i hu hi A 0 0 (Nat.le_refl _) _ hsrc
    unfold execOp
    simp only[ho,resolve,invoke,builtin,Sem.run_bind,Sem.run_pure,Result.andThen_ok,List.map_toArray,List.map_cons,List.map_nil,he,hex,hrun]
theorem Q6k{l0 rest:List Oper}{acc:List Ef}{s x:Operand}{t e r e0 lo sz by_ n c:Nat}{ex ex':Bool}{qs:List PV}(hg:o.guard=none)(ho:o.op = .call {callee:=.builtin .append,args:=#[s,x],argTypes:=#[t,t]})(hs0:Q0k s=true)(hx0:Q0k x=true)(hz:slcZ P t=some (e,sz,by_))(h0:0<sz)
 (h1:σ.ev s = .cut r e0 sz lo n c ex) (h2:σ.ev x = .c (.sl ex' sz 0 qs))
 (h:evD P l0 rest (σ.eff o.dst (.cut r e0 sz lo n c ex) []) (⟨.cut r e0 sz lo n c ex,[],[],[]⟩::acc) K):evD P l0 (o::rest) σ acc K:=by
 refine⟨⟨.cut r e0 sz lo n c ex,[],[],[]⟩,.inl ⟨hg,fun τ hA _ hN=>?_⟩,h⟩
 have hA':∀z,z=s∨z=x→τ.ev z = σ.ev z:=fun z hz=>hA z (by rw[ho];rcases hz with rfl|rfl<;>simp[Op.operands,Call.operands])
 refine Q6i ho hs0 hx0 hz h0 (by rw[hA' s (.inl rfl)];exact h1) (by rw[hA' x (.inr rfl)];exact h2) ?_
 cases o.dst<;>rfl
theorem St.to.noname{σ : St}(d e:Nat)(hf:σ.free d=true)(hd:d<1000):σ.to ⟨σ.T,hput σ.H d []⟩:=fun E ι a w hc'=>
 ⟨_,hc'.grow (w':=w) hf hd (World.grownBy.refl w none) none (fun b hb=>by cases hb) (0,0,e) (cs:=[]) (fun h=>absurd rfl h) rfl (.inl ⟨rfl,rfl⟩)⟩
theorem St.le_set{i:Nat}{y:AV}(h:(σ.T.getD i .any).le y):σ.le ⟨σ.T.set i y,σ.H⟩:=by
 refine⟨by simp,fun j=>?_,fun r cs h=>h⟩
 by_cases hj:j=i
 · subst hj
   rcases Nat.lt_or_ge j σ.T.length with h0|h0
   · have:(σ.T.set j y).getD j .any=y:=by simp[List.getD,List.getElem?_set,h0]
     rw[this];exact h
   · have:(σ.T.set j y).getD j .any = .any:=by rw[List.getD_eq_getElem?_getD,List.getElem?_eq_none (by simp;omega)];rfl
     rw[this]
     exact fun _ _ _ _ _=>.any _
 · have:(σ.T.set i y).getD j .any = σ.T.getD j .any:=by simp[List.getD,List.getElem?_set,Ne.symm hj]
   rw[this]
   exact AV.le_refl _
end
def St.toX(σ : St)(Q:St→Prop):Prop:=∀E ι a w,Conc E ι σ a w→∃ι' τ,Q τ∧Conc E ι' τ a w
theorem St.toX.of{σ τ : St}{Q:St→Prop}(h:σ.to τ)(hq:Q τ):σ.toX Q:=fun E ι a w hc=>by
 obtain⟨ι',hc'⟩:=h E ι a w hc
 exact⟨ι',τ,hq,hc'⟩
theorem St.toX.mono{σ : St}{Q R:St→Prop}(h:σ.toX Q)(hq:∀τ,Q τ→R τ):σ.toX R:=fun E ι a w hc=>by
 obtain⟨ι',τ,h1,h2⟩:=h E ι a w hc
 exact⟨ι',τ,hq τ h1,h2⟩
theorem St.toX.bind{σ : St}{Q R:St→Prop}(h:σ.toX Q)(hq:∀τ,Q τ→τ.toX R):σ.toX R:=fun E ι a w hc=>by
 obtain⟨ι',τ,h1,h2⟩:=h E ι a w hc
 exact hq τ h1 E ι' a w h2
theorem St.toX.cut{σ : St}{d r e sz n:Nat}(h:σ.T.getD d .any = .row r e sz n)(hd:d < σ.T.length):σ.toX fun τ=>∃k,n≤k∧k≤maxLen∧τ = ⟨σ.T.set d (.cut r e sz 0 n k true),σ.H⟩:=fun E ι a w hc=>by
 have hv:=hc.tmp d
 rw[h] at hv
 obtain⟨k,h1,h2,hcv⟩:=hv.row_cut
 refine⟨ι,_,⟨k,h1,h2,rfl⟩,hc.defers,by simpa using hc.size,fun j=>?_,hc.heap,hc.keep⟩
 show RV _ ι w _ ((σ.T.set d (.cut r e sz 0 n k true)).getD j .any)
 by_cases hj:j=d
 · subst hj
   have:(σ.T.set j (.cut r e sz 0 n k true)).getD j .any = .cut r e sz 0 n k true:=by simp[List.getD,List.getElem?_set,hd]
   rw[this];exact hcv
 · have:(σ.T.set d (.cut r e sz 0 n k true)).getD j .any = σ.T.getD j .any:=by simp[List.getD,List.getElem?_set,Ne.symm hj]
   rw[this];exact hc.tmp j
section
variable {P:Program}
theorem AW.loopX{c:Code}{σ : St}{Φ : Exit→St→Prop}{α : Type}(I:α→St)(μ : α→Nat)(x0:α)(h0:σ.to (I x0))
 (round:∀x,evC P c (I x) fun ex σ'=>match ex with | .normal=>σ'.toX (fun τ=>∃y,μ y < μ x∧τ = I y)|ex=>Φ ex σ'):AW P (.loop c) σ Φ:=by
 intro E ι a w hc b k cs
 have key:∀n x ι a w,μ x=n→Conc E ι (I x) a w→∃e a' w',(∃ι' σ',Conc E ι' σ' a' w'∧Φ e σ')∧Arrives P (lone (b.at a (.code c :: .inLoop c::k)) cs w) b k cs e a' w':=by
  intro n
  induction n using Nat.strongRecOn with
  |_ n ih=>
   intro x ι a w hn hI
   obtain⟨e,a₁,w₁,⟨ι₁,σ₁,hc₁,hq⟩,harr⟩:=Q2u c (I x) _ (round x) E ι a w hI b (.inLoop c::k) cs
   cases e with
   |normal=>
    obtain⟨ι2,τ,⟨y,hlt,rfl⟩,hc2⟩:=hq E ι₁ a₁ w₁ hc₁
    obtain⟨e₂,a₂,w₂,hq₂,harr₂⟩:=ih (μ y) (hn▸hlt) y ι2 a₁ w₁ rfl hc2
    exact⟨e₂,a₂,w₂,hq₂,.of_steps (Steps.trans harr (.one step_inLoop)) harr₂⟩
   |exit id=>exact⟨_,a₁,w₁,⟨ι₁,σ₁,hc₁,hq⟩,.pass (x:=.inLoop c) rfl (fun _ _=>.inl (by simp)) harr⟩
   |goto l=>exact⟨_,a₁,w₁,⟨ι₁,σ₁,hc₁,hq⟩,.pass (x:=.inLoop c) rfl (fun _ _=>.inl (by simp)) harr⟩
   |ret=>exact⟨_,a₁,w₁,⟨ι₁,σ₁,hc₁,hq⟩,.pass (x:=.inLoop c) rfl (fun _ _=>.inl (by simp)) harr⟩
   |panic ch=>exact⟨_,a₁,w₁,⟨ι₁,σ₁,hc₁,hq⟩,.pass (x:=.inLoop c) rfl (fun _ _=>.inl (by simp)) harr⟩
   |outgrown=>exact⟨_,a₁,w₁,⟨ι₁,σ₁,hc₁,hq⟩,.pass (x:=.inLoop c) rfl (fun _ _=>.inl (by simp)) harr⟩
 obtain⟨ι0,hc0⟩:=h0 E ι a w hc
 obtain⟨e,a',w',hq,harr⟩:=key _ x0 ι0 a w rfl hc0
 exact⟨e,a',w',hq,.of_steps (.one step_loop) harr⟩
theorem evC_loopX{c:Code}{σ : St}{Φ : Exit→St→Prop}{α : Type}(I:α→St)(μ : α→Nat)(x0:α)(h0:σ.to (I x0))
 (round:∀x,∀J:Exit→St→Prop,(∀σ',σ'.toX (fun τ=>∃y,μ y < μ x∧τ = I y)→J .normal σ')→(∀ex σ',ex≠.normal→Φ ex σ'→J ex σ')→evC P c (I x) J):evC P (.loop c) σ Φ:=by
 unfold evC
 refine AW.loopX I μ x0 h0 fun x=>round x _ (fun σ' h=>h) fun ex σ' hne h=>?_
 cases ex<;>first|exact absurd rfl hne|exact h
end
end
section
open Go.RowKit
open Nat (reduceBEq)
attribute [-go_sem] IntKind.bits
set_option maxRecDepth 20000
set_option maxHeartbeats 2000000
theorem lastNE(T:Ph→List Sp)(ph:List Ph):∀n,n≤ph.length→∃m,m≤n∧(∀i p,m≤i→i<n→ph[i]? = some p→T p=[])∧(m=0∨∃p,ph[m-1]? = some p∧T p≠[])
 |0,_=>⟨0,Nat.le_refl _,fun i p _ h=>absurd h (Nat.not_lt_zero _),.inl rfl⟩
 |n+1,hn=>by
  obtain⟨m,h1,h2,h3⟩:=lastNE T ph n (by omega)
  have hp:ph[n]? = some ph[n]:=List.getElem?_eq_getElem (by omega)
  by_cases h:T ph[n]=[]
  · refine⟨m,by omega,fun i p hi hlt he=>?_,h3⟩
    rcases Nat.lt_or_ge i n with h'|h'
    · exact h2 i p hi h' he
    · obtain rfl:i=n:=by omega
      rw[hp] at he;cases he;exact h
  · exact⟨n+1,Nat.le_refl _,fun i p hi hlt=>by omega,.inr ⟨ph[n],hp,h⟩⟩
def outT(T:Ph→List Sp)(ph:List Ph)(i:Nat):List Sp:=(ph.take i).flatMap T
theorem outT_succ(T:Ph→List Sp){ph:List Ph}{i:Nat}{p:Ph}(h:ph[i]? = some p):outT T ph (i+1)=outT T ph i++T p:=by
 unfold outT
 rw[List.take_add_one,h,List.flatMap_append]
 simp
theorem outT_len(T:Ph→List Sp)(ph:List Ph)(hT:∀p∈ph,(T p).length≤1000)(hl:ph.length≤1000):∀i,(outT T ph i).length≤1000000:=by
 have key:∀l:List Ph,(∀p∈l,(T p).length≤1000)→(l.flatMap T).length≤l.length*1000:=by
  intro l
  induction l with
  |nil=>intro _;exact Nat.le_refl _
  |cons p l ih=>
   intro h
   have h1:=h p (by simp)
   have h2:=ih fun q hq=>h q (by simp[hq])
   simp only[List.flatMap_cons,List.length_append,List.length_cons]
   omega
 intro i
 have h:=key (ph.take i) fun p hp=>hT p (List.mem_of_mem_take hp)
 have:(ph.take i).length≤1000:=by rw[List.length_take];omega
 unfold outT
 omega
abbrev stFa(ks:List PV)(ph:List Ph)(out:List Sp)(i:Nat):St:=⟨[.any,.any,.any,.ptr 3 0,spl5 false out,.any,.any,.any,.any,.any,.any,.any,.any,.any,.any,phs false ph,vi .i64 ph.length,vi .i64 i,.any,.any,.any,.any,.any,.any,.any,.any,.any,.any,.any,.any,.any,.any,.any,.any,.any,.any,.any,.any,.any],[(3,[.ep ks])]⟩
abbrev stFr(r:Nat)(ks:List PV)(ph:List Ph)(out:List Sp)(c:Nat)(ex:Bool)(i:Nat):St:=⟨[.any,.any,.any,.ptr 3 0,.cut r 37 5 0 out.length c ex,.any,.any,.any,.any,.any,.any,.any,.any,.any,.any,phs false ph,vi .i64 ph.length,vi .i64 i,.any,.any,.any,.any,.any,.any,.any,.any,.any,.any,.any,.any,.any,.any,.any,.any,.any,.any,.any,.any,.any],[(3,[.ep ks]),(r,raS out)]⟩
abbrev stFb:=stFr 500
theorem stFr_rn(ks:List PV)(ph:List Ph)(out:List Sp)(c:Nat)(ex:Bool)(i:Nat):(stFr 30 ks ph out c ex i).to (stFr 500 ks ph out c ex i):=by
 have h:=St.to.rn (σ:=stFr 30 ks ph out c ex i) (fun r=>if r=30 then 500 else r) (fun r=>if r=500 then 30 else r) [30,3] (by simp[AV.inNL,AV.inN]) (by simp) (by simp[inH,AV.inNL,AV.inN,Q0v]) (by simp) (by simp)
 simpa [AV.renL,AV.ren,renH] using h
theorem X6x(c:Cs)(cs:List PV)(T:Ph→List Sp)(hl:c.ph.length≤1000)(hT:∀p∈c.ph,(T p).length≤1000)(hto:∀p∈c.ph,∀s∈T p,s.ok)(tf:∀p∈c.ph,Fn Tryz.prog 28 [evs false p.tr] [] (spl5 false (T p)) [])
 (h:Fn Tryz.prog 43 [.agg [vi .u64 c.snd,phs false c.ph,asl false c.cd]] [] (.ep (.v (.int .u64 c.snd) :: .sl false 4 c.ph.length (c.ph.flatMap Ph.pv)::cs)) [])
 (K s res:List Sp) (hn0:(c.ph.flatMap T).length≤1000000)
 (de:∀k ex,(c.ph.flatMap T).length≤k→k≤maxLen→Fn Tryz.prog 44 [.cut 1000 37 5 0 (c.ph.flatMap T).length k ex,.fn 45 [.ptr 1001 0]] [(1000,raS (c.ph.flatMap T)),(1001,[.ep (.v (.int .u64 c.snd) :: .sl false 4 c.ph.length (c.ph.flatMap Ph.pv)::cs)])] (.cut 1000 37 5 0 K.length k ex) [(1000,raS K)])
 (so:∀k ex,Fn Tryz.prog 47 [.cut 1000 37 5 0 K.length k ex,.fn 48 []] [(1000,raS K)] (.tup []) [(1000,raS s)])
 (co:∀k ex,(c.ph.flatMap T).length≤k→k≤maxLen→Fn Tryz.prog 49 [.cut 1000 37 5 0 K.length k ex] [(1000,raS s)] (.cut 1000 37 5 0 res.length k ex) [(1000,raS res)]) :
 Fn Tryz.prog 13 [csA c] [] (spl5 false res) []:=by
 (refine Q0t Tryz.func13 rfl (by rfl) ?_;simp only[Tryz.ntmps13,List.length_cons,List.length_nil,Nat.reduceAdd,Nat.reduceSub,List.replicate,List.cons_append,List.nil_append])
 (repeat(any_goals(first|((with_reducible refine Q2n ?_ ?_);rfl;intro K hK;(first|(apply Q3f;rfl;rfl;kernel_rfl;rfl));(simp only[go_sem];refine hK _ ?_;clear hK K))|((with_reducible refine Q0l ?_ ?_ ?_);rfl;rfl;intro K hK;((apply Q0i (h);rfl;rfl;rfl;rfl;exact Tryz.func43);kernel_rfl;rfl;(focus((simp only[go_sem]);(try rfl);done));(first|rfl));(simp only[go_sem];refine hK _ ?_;clear hK K))|((with_reducible refine Q0b ?_ ?_);rfl;intro K hK;simp only[go_sem];((repeat(refine ndI (by first|assumption|omega) ?_));refine hK _ ?_;clear hK K))|(with_reducible first|(refine Q0c ?_;refine hR _ ?_;clear hR R)|((first|refine Q0e ?_|refine Q0f ?_);intro J hJ hJ')|(refine Q0a ?_;intro R hR)|(refine hJ _ ?_;clear hJ hJ' J)|refine Q0h ?_)|((with_reducible apply Q0d);rfl;rfl;all_goals(intro hc;first|(cases hc;done)|(try simp only at hc))))))
 obtain⟨ks,hks⟩:∃ks,(.v (.int .u64 c.snd) :: .sl false 4 c.ph.length (c.ph.flatMap Ph.pv)::cs)=ks:=⟨_,rfl⟩
 simp only[hks] at de ⊢
 obtain⟨m,hm1,hm2,hm3⟩:=lastNE T c.ph c.ph.length (Nat.le_refl _)
 have hol:=outT_len T c.ph hT hl
 clear h
 refine evC_loopX (α:={q:Nat×Option (Nat×Bool) // q.1≤c.ph.length∧(match q.2 with|none=>q.1<m|some (k,_)=>m≤q.1∧(outT T c.ph q.1).length≤k∧k≤maxLen)}) (fun q=>match q.1.2 with|none=>stFa ks c.ph (outT T c.ph q.1.1) q.1.1|some (k,ex)=>stFb ks c.ph (outT T c.ph q.1.1) k ex q.1.1) (fun q=>c.ph.length-q.1.1) (if h0:m=0 then⟨(0,some (0,true)),Nat.zero_le _,by dsimp only;exact⟨by omega,Nat.le_refl _,Nat.zero_le _⟩⟩ else⟨(0,none),Nat.zero_le _,by dsimp only;omega⟩) ?_ ?_
 · by_cases h0:m=0
   · rw[dif_pos h0]
     refine St.to.trans (St.to.nilcut 4 500 37 5 rfl (by simp) (by simp[St.free,Q1z,AV.refsL,AV.refs]) (by decide)) (St.to.of_le (St.le_of (by simp[leT,outT]) (by simp[leH,hget,hput,outT])))
   · rw[dif_neg h0]
     exact St.to.trans (St.to.of_le (St.le_set (i:=4) (y:=spl5 false []) (AV.le_nil false 5))) (St.to.of_le (St.le_of (by simp[leT,outT]) (by simp[leH,hget,hput])))
 rintro ⟨⟨i,o⟩,hi,ho⟩ J hJ hJ'
 (try dsimp only at hi ho hJ ⊢)
 have hn:=hol i
 rcases Nat.lt_or_ge i c.ph.length with hlt|hge
 · obtain⟨y,hy⟩:∃y,c.ph[i]? = some y:=⟨_,List.getElem?_eq_getElem hlt⟩
   have k1:(decide ((i:Int)<(c.ph.length:Int)))=true:=by simp;omega
   have k2:=Q4x hy
   have k7:(i:Int)+1=((i+1:Nat):Int):=by omega
   have tf1:=tf y (List.mem_of_getElem? hy)
   have os:=outT_succ T hy
   have hTy:=hT y (List.mem_of_getElem? hy)
   cases o with
   |none=>
    dsimp only at ho ⊢
    by_cases him:i+1<m
    · have hJ1:∀σ':St,σ'.to (stFa ks c.ph (outT T c.ph (i+1)) (i+1))→J .normal σ':=fun σ' h=>hJ σ' (.of h ⟨⟨(i+1,none),hlt,him⟩,by dsimp only;omega,rfl⟩)
      rw[os] at hJ1
      generalize outT T c.ph i=out at hn hJ1 ⊢
      have k4:(out.flatMap Sp.pv).length=out.length*5:=Q0s Q8c _
      generalize T y=ty at tf1 hTy hJ1
      have k5:(ty.flatMap Sp.pv).length=ty.length*5:=Q0s Q8c _
      have k8:(out.flatMap Sp.pv).take (out.length*5)=out.flatMap Sp.pv:=List.take_of_length_le (by omega)
      clear hol de so co tf hT hto os
      (have W:=ndI k1 (ndI k2 (ndI k4 (ndI k5 (ndI k7 (ndI k8 @wrI)))));(repeat(any_goals(first|((with_reducible refine Q0b ?_ ?_);rfl;intro K hK;simp(disch:=omega) only[go_sem,W];((repeat(refine ndI (by first|assumption|omega|rfl) ?_));refine hK _ ?_;clear hK K))|(with_reducible first|(refine Q0c ?_;refine hR _ ?_;clear hR R)|((first|refine Q0e ?_|refine Q0f ?_);intro J hJ hJ')|(refine Q0a ?_;intro R hR)|(refine hJ _ ?_;clear hJ hJ' J)|refine Q0h ?_)|((with_reducible refine hJ' _ _ ?_ ?_);(focus(simp;done));clear hJ hJ' J)|((with_reducible apply Q0d);rfl;rfl;all_goals(intro hc;first|(cases hc;done)|(try simp only at hc)))|((with_reducible refine Q0z ?_ ?_);kernel_rfl;(with_reducible refine hR _ ?_);clear hR R)|((first|((with_reducible apply Q1h);rfl;rfl;((apply Q0y (tf1);rfl;rfl;rfl;rfl;exact Tryz.func28);kernel_rfl;rfl;(focus((simp(disch:=omega) only[go_sem,W]);(try rfl);done));(first|rfl)))|((with_reducible apply Q0x);rfl;rfl;(simp(disch:=omega) only[rdE,rdOf,go_sem,W];rfl);(intro τ hA hQ hN;((try simp only[Q1i,Op.operands,Call.operands,go_sem,W,go_sem,List.mem_cons,List.not_mem_nil,forall_eq_or_imp,forall_eq,List.append_toArray,Option.toArray] at hA);(try simp only[go_sem,W,List.mem_cons,List.not_mem_nil,forall_eq_or_imp,forall_eq] at hQ hN);(first|(revert hA;intro hA));(first|(revert hQ;intro hQ));(first|(revert hN;intro hN));simp(disch:=omega) only[go_sem,W,go_sem,hA,hQ,hN];(repeat(refine ndI (by first|assumption|omega|rfl) ?_));(first|apply Q1b))))|((with_reducible apply Q4n);rfl;rfl;rfl;rfl;(focus(simp only[go_sem];try rfl));(first|omega);(first|omega);rfl;rfl;(focus(first|omega));(focus(first|omega));(focus(first|omega));rfl;(focus(first|omega))));(simp(disch:=omega) only[St.eff,setO,Q0u,go_sem,W]))|((with_reducible refine Q0w ?_ ?_ ?_ ?_);kernel_rfl;kernel_rfl;(first|kernel_rfl);intro R hR)))))
      all_goals exact hJ1 _ (St.to.of_le (St.le_of (by simp[leT]) (by simp[leH,hget])))
    · have hne:T y≠[]:=by
       rcases hm3 with h|⟨p,hp,h⟩
       · omega
       · have e:m-1=i:=by omega
         rw[e,hy] at hp
         cases hp
         exact h
      have hpos:0<(T y).length:=List.length_pos_iff.2 hne
      have hn1:=hol (i+1)
      have hJ1:∀σ':St,σ'.toX (fun τ=>∃k,(outT T c.ph (i+1)).length≤k∧k≤maxLen∧τ = stFb ks c.ph (outT T c.ph (i+1)) k true (i+1))→J .normal σ':=fun σ' h=>hJ σ' (h.mono fun τ ⟨k,h1,h2,h3⟩=>⟨⟨(i+1,some (k,true)),hlt,by dsimp only;omega,h1,h2⟩,by dsimp only;omega,h3⟩)
      rw[os] at hJ1 hn1
      generalize outT T c.ph i=out at hn hn1 hJ1 ⊢
      have k4:(out.flatMap Sp.pv).length=out.length*5:=Q0s Q8c _
      generalize T y=ty at tf1 hTy hJ1 hpos hn1
      have k5:(ty.flatMap Sp.pv).length=ty.length*5:=Q0s Q8c _
      have k8:(out.flatMap Sp.pv).take (out.length*5)=out.flatMap Sp.pv:=List.take_of_length_le (by omega)
      rw[List.length_append] at hn1
      clear hol de so co tf hT hto os
      (have W:=ndI k1 (ndI k2 (ndI k4 (ndI k5 (ndI k7 (ndI k8 @wrI)))));(repeat(any_goals(first|((with_reducible refine Q0b ?_ ?_);rfl;intro K hK;simp(disch:=omega) only[go_sem,W];((repeat(refine ndI (by first|assumption|omega|rfl) ?_));refine hK _ ?_;clear hK K))|(with_reducible first|(refine Q0c ?_;refine hR _ ?_;clear hR R)|((first|refine Q0e ?_|refine Q0f ?_);intro J hJ hJ')|(refine Q0a ?_;intro R hR)|(refine hJ _ ?_;clear hJ hJ' J)|refine Q0h ?_)|((with_reducible refine hJ' _ _ ?_ ?_);(focus(simp;done));clear hJ hJ' J)|((with_reducible apply Q0d);rfl;rfl;all_goals(intro hc;first|(cases hc;done)|(try simp only at hc)))|((with_reducible refine Q0z ?_ ?_);kernel_rfl;(with_reducible refine hR _ ?_);clear hR R)|((first|((with_reducible apply Q1h);rfl;rfl;((apply Q0y (tf1);rfl;rfl;rfl;rfl;exact Tryz.func28);kernel_rfl;rfl;(focus((simp(disch:=omega) only[go_sem,W]);(try rfl);done));(first|rfl)))|((with_reducible apply Q0x);rfl;rfl;(simp(disch:=omega) only[rdE,rdOf,go_sem,W];rfl);(intro τ hA hQ hN;((try simp only[Q1i,Op.operands,Call.operands,go_sem,W,go_sem,List.mem_cons,List.not_mem_nil,forall_eq_or_imp,forall_eq,List.append_toArray,Option.toArray] at hA);(try simp only[go_sem,W,List.mem_cons,List.not_mem_nil,forall_eq_or_imp,forall_eq] at hQ hN);(first|(revert hA;intro hA));(first|(revert hQ;intro hQ));(first|(revert hN;intro hN));simp(disch:=omega) only[go_sem,W,go_sem,hA,hQ,hN];(repeat(refine ndI (by first|assumption|omega|rfl) ?_));(first|apply Q1b))))|((with_reducible apply X0o);rfl;rfl;rfl;rfl;(focus(simp only[go_sem];try rfl));(first|omega);(first|omega);rfl;rfl;(focus(first|omega));(focus(first|omega));(focus(first|omega));rfl;(focus(first|omega));(focus rfl)));(simp(disch:=omega) only[St.eff,setO,Q0u,go_sem,W]))|((with_reducible refine Q0w ?_ ?_ ?_ ?_);kernel_rfl;kernel_rfl;(first|kernel_rfl);intro R hR)))))
      all_goals refine hJ1 _ (St.toX.bind (St.toX.cut (d:=4) rfl (by simp)) ?_)
      rintro τ ⟨k,h1,h2,rfl⟩
      exact St.toX.of (St.to.trans (St.to.of_le (τ:=stFr 30 ks c.ph (out++ty) k true (i+1)) (St.le_of (by simp[leT]) (by simp[leH,hget,raS]))) (stFr_rn ks c.ph _ k true _)) ⟨k,by rw[List.length_append];exact h1,h2,rfl⟩
   |some kx=>
    obtain⟨k,ex⟩:=kx
    dsimp only at ho ⊢
    obtain⟨ho1,ho2,ho3⟩:=ho
    have hTn:T y=[]:=hm2 i y ho1 hlt hy
    have tf2:Fn Tryz.prog 28 [evs false y.tr] [] (.c (.sl false 5 0 [])) []:=by rw[hTn] at tf1;exact tf1
    rw[hTn,List.append_nil] at os
    have hJ1:∀σ':St,σ'.to (stFb ks c.ph (outT T c.ph (i+1)) (outT T c.ph (i+1)).length false (i+1))→J .normal σ':=fun σ' h=>hJ σ' (.of h ⟨⟨(i+1,some (_,false)),hlt,by dsimp only;omega,Nat.le_refl _,by have:=hol (i+1);unfold maxLen;omega⟩,by dsimp only;omega,rfl⟩)
    rw[os] at hJ1
    generalize outT T c.ph i=out at hn hJ1 ho2 ⊢
    have k4:(raS out).length=out.length*5:=X6j out
    have k9:∀r,AV.refsL r (raS out)=false:=fun r=>Q0o r _
    clear hol de so co tf tf1 hT hto os
    (have W:=ndI k1 (ndI k2 (ndI k4 (ndI k7 (ndI k9 @wrI))));(repeat(any_goals(first|((with_reducible refine Q0b ?_ ?_);rfl;intro K hK;simp(disch:=omega) only[go_sem,W];((repeat(refine ndI (by first|assumption|omega|rfl) ?_));refine hK _ ?_;clear hK K))|(with_reducible first|(refine Q0c ?_;refine hR _ ?_;clear hR R)|((first|refine Q0e ?_|refine Q0f ?_);intro J hJ hJ')|(refine Q0a ?_;intro R hR)|(refine hJ _ ?_;clear hJ hJ' J)|refine Q0h ?_)|((with_reducible refine hJ' _ _ ?_ ?_);(focus(simp;done));clear hJ hJ' J)|((with_reducible apply Q0d);rfl;rfl;all_goals(intro hc;first|(cases hc;done)|(try simp only at hc)))|((with_reducible refine Q0z ?_ ?_);kernel_rfl;(with_reducible refine hR _ ?_);clear hR R)|((first|((with_reducible apply Q1h);rfl;rfl;((apply Q0y (tf2);rfl;rfl;rfl;rfl;exact Tryz.func28);kernel_rfl;rfl;(focus((simp(disch:=omega) only[go_sem,W]);(try rfl);done));(first|rfl)))|((with_reducible apply Q0x);rfl;rfl;(simp(disch:=omega) only[rdE,rdOf,go_sem,W];rfl);(intro τ hA hQ hN;((try simp only[Q1i,Op.operands,Call.operands,go_sem,W,go_sem,List.mem_cons,List.not_mem_nil,forall_eq_or_imp,forall_eq,List.append_toArray,Option.toArray] at hA);(try simp only[go_sem,W,List.mem_cons,List.not_mem_nil,forall_eq_or_imp,forall_eq] at hQ hN);(first|(revert hA;intro hA));(first|(revert hQ;intro hQ));(first|(revert hN;intro hN));simp(disch:=omega) only[go_sem,W,go_sem,hA,hQ,hN];(repeat(refine ndI (by first|assumption|rfl) ?_));(first|apply Q1b))))|((first|((with_reducible apply Q6j);rfl));apply X1y;rfl;rfl;rfl;rfl;rfl;(focus(simp only[go_sem];try rfl));rfl;rfl;rfl;rfl;(intro h;first|rfl);(first|omega))|((with_reducible apply Q6k);rfl;rfl;rfl;rfl;(focus(simp only[go_sem];try rfl));(first|omega);rfl;rfl));(simp(disch:=omega) only[St.eff,setO,Q0u,go_sem,W]))|((with_reducible refine Q0w ?_ ?_ ?_ ?_);kernel_rfl;kernel_rfl;(simp[Q2a,Q5q,St.free,Q1z,AV.refsL,AV.refs,k9]);intro R hR)))))
    all_goals exact hJ1 _ (St.to.of_le (St.le_of (by simp[leT]) (by simp[leH,hget])))
 · cases o with
   |none=>
    dsimp only at ho
    omega
   |some kx=>
    obtain⟨k,ex⟩:=kx
    dsimp only at ho ⊢
    obtain⟨ho1,ho2,ho3⟩:=ho
    have k1:(decide ((i:Int)<(c.ph.length:Int)))=false:=by simpa using hge
    have eL:outT T c.ph i=c.ph.flatMap T:=by unfold outT;rw[List.take_of_length_le hge]
    rw[eL] at ho2 hn ⊢
    have de:=de k ex ho2 ho3
    have so:=so k ex
    have co:=co k ex ho2 ho3
    generalize c.ph.flatMap T=L at ho2 hn de ⊢
    clear hol tf hT hto eL hn0
    (repeat(any_goals(first|((with_reducible refine Q0l ?_ ?_ ?_);rfl;rfl;intro K hK;(first|(apply Q1c (de) (fun r=>if r=1000 then 500 else if r=1001 then 3 else r);rfl;rfl;rfl;rfl;exact Tryz.func44;kernel_rfl;rfl;rfl;(intro r hr q hq h;simp only[List.map_cons,List.map_nil,List.cons_append,List.nil_append,List.mem_cons,List.not_mem_nil,or_false] at hr hq;(try dsimp only at h);first|(rcases hr with rfl|rfl|rfl<;>rcases hq with rfl|rfl|rfl<;>simp at h ⊢));(simp only[Q1d,Q1x,AV.ren,AV.renL,Q0r,List.mem_cons,List.not_mem_nil,forall_eq_or_imp,forall_eq,Q1r,List.contains_cons,List.contains_nil,AV.refsL,AV.refs,Q0o,AV.inN,AV.inNL,inH,Q0v,go_sem,k1]))|(apply Q1c (so) (fun r=>500);rfl;rfl;rfl;rfl;exact Tryz.func47;kernel_rfl;rfl;rfl;(intro r hr q hq h;simp only[List.map_cons,List.map_nil,List.cons_append,List.nil_append,List.mem_cons,List.not_mem_nil,or_false] at hr hq;(try dsimp only at h);first|omega);(simp only[Q1d,Q1x,AV.ren,AV.renL,Q0r,List.mem_cons,List.not_mem_nil,forall_eq_or_imp,forall_eq,Q1r,List.contains_cons,List.contains_nil,AV.refsL,AV.refs,Q0o,AV.inN,AV.inNL,inH,Q0v,go_sem,k1])));(simp only[Q0u,Q1m,renH,AV.ren,AV.renL,Q0r,go_sem,k1];refine hK _ ?_;clear hK K))|((with_reducible refine Q0b ?_ ?_);rfl;intro K hK;simp only[go_sem,k1];((repeat(refine ndI (by first|assumption) ?_));refine hK _ ?_;clear hK K))|(with_reducible first|(refine Q0c ?_;refine hR _ ?_;clear hR R)|((first|refine Q0e ?_);intro J hJ hJ')|(refine Q0a ?_;intro R hR)|(refine hJ _ ?_;clear hJ hJ' J)|refine Q0q ?_)|((with_reducible refine hJ' _ _ ?_ ?_);(focus(simp;done));clear hJ hJ' J)|((with_reducible apply Q0d);rfl;rfl;all_goals(intro hc;first|(cases hc;done)|(try simp only at hc))))))
    (first|((with_reducible refine Q0l ?_ ?_ ?_);rfl;rfl;intro K hK;(apply Q1c (co) (fun r=>500);rfl;rfl;rfl;rfl;exact Tryz.func49;kernel_rfl;rfl;rfl;(intro r hr q hq h;simp only[List.map_cons,List.map_nil,List.cons_append,List.nil_append,List.mem_cons,List.not_mem_nil,or_false] at hr hq;(try dsimp only at h);first|omega);(simp only[Q1d,Q1x,AV.ren,AV.renL,Q0r,List.mem_cons,List.not_mem_nil,forall_eq_or_imp,forall_eq,Q1r,List.contains_cons,List.contains_nil,AV.refsL,AV.refs,Q0o,AV.inN,AV.inNL,inH,Q0v,go_sem]));(simp only[Q0u,Q1m,renH,AV.ren,AV.renL,Q0r,go_sem];refine hK _ ?_;clear hK K)))
    refine evL_to rfl (St.to.frz 500 (pcs:=res.flatMap Sp.pv) rfl) ?_
    have f1:(res.flatMap Sp.pv).length=res.length*5:=Q0s Q8c _
    have f2:(res.flatMap Sp.pv).take (res.length*5)=res.flatMap Sp.pv:=List.take_of_length_le (by omega)
    simp only[St.frz,AV.frz,AV.frzL,frzH,if_true,eq_self,↓reduceIte,Nat.zero_add,Nat.zero_mul,List.drop_zero,f1,f2,Nat.le_refl,Nat.reduceEqDiff,if_false]
    (repeat(any_goals(first|((with_reducible refine Q0b ?_ ?_);rfl;intro K hK;simp only[go_sem];((repeat(refine ndI (by first|assumption) ?_));refine hK _ ?_;clear hK K))|(with_reducible first|(refine Q0c ?_;refine hR _ ?_;clear hR R)|(refine hJ _ ?_;clear hJ hJ' J)|refine Q0j ?_))))
    all_goals(refine⟨by simp,⟨_,?_,AV.le_refl _⟩,Q0g (by simp[leH,hget])⟩;simp only[Tryz.results13,resL,ldA,Q0m,go_sem])
end
section
open Go.RowKit
open Nat (reduceBEq)
attribute [-go_sem] IntKind.bits
set_option maxRecDepth 20000
set_option maxHeartbeats 4000000
abbrev raE(l:List Ev):List AV:=(l.flatMap Ev.pv).map .c
theorem Q9k(l:List Ev):(raE l).length=l.length*14:=by rw[List.length_map,Q0s Q9v]
theorem cloneE_fn(ex:Bool)(l:List Ev)(hl:l.length≤1000000):Fn Tryz.prog 37 [evs ex l] [] (.row 7 58 14 l.length) [(7,raE l)]:=by
 have e1:=Q9k l
 (refine Q0t Tryz.func37 rfl (by rfl) ?_;simp only[Tryz.ntmps37,List.length_cons,List.length_nil,Nat.reduceAdd,Nat.reduceSub,List.replicate,List.cons_append,List.nil_append])
 (repeat(any_goals(first|((have hz0:=hb0 hc);(with_reducible refine Q2n ?_ ?_);rfl;intro K hK;refine OpA.nilrow_after 2 7 58 14 (Q3p ?_);(simp(disch:=omega) only[go_sem,e1,Q0o]);(repeat(refine And.intro (by first|assumption|rfl) ?_));refine hK _ ?_;clear hK K;clear hb0)|((with_reducible refine Q0b ?_ ?_);rfl;intro K hK;simp(disch:=omega) only[go_sem,e1,Q0o];((repeat(refine ndI (by first|assumption|omega|rfl) ?_));refine hK _ ?_;clear hK K))|((with_reducible refine Q0b ?_ ?_);rfl;intro K hK;refine Q9w rfl rfl (by first|exact .inl rfl) ?_ rfl ?_;(focus(simp(disch:=omega) only[go_sem];try rfl));(intro b hb0;simp(disch:=omega) only[eq_self,go_sem,e1,Q0o];(with_reducible refine hK _ ?_);clear hK K))|(with_reducible first|(refine Q0c ?_;refine hR _ ?_;clear hR R)|((first|refine Q0e ?_);intro J hJ hJ')|(refine Q0a ?_;intro R hR)|(refine hJ _ ?_;clear hJ hJ' J)|refine Q0h ?_|refine Q0j ?_)|((with_reducible refine hJ' _ _ ?_ ?_);(focus(simp;done));clear hJ hJ' J)|((with_reducible apply Q0d);rfl;rfl;all_goals(intro hc;first|(try simp only at hc))))))
 all_goals(try(obtain rfl:=List.eq_nil_of_length_eq_zero hz0))
 all_goals exact⟨by simp,⟨_,rfl,AV.le_refl _⟩,Q0g (by simp[leH,hget])⟩
theorem Z0t(ex:Bool)(l:List Nat)(hl:l.length≤1000000):Fn Tryz.prog 38 [bsl ex l] [] (.row 7 5 1 l.length) [(7,(l.flatMap bpv).map .c)]:=by
 have e1:((l.flatMap bpv).map AV.c).length=l.length*1:=by rw[List.length_map,Q0s Q2x]
 (refine Q0t Tryz.func38 rfl (by rfl) ?_;simp only[Tryz.ntmps38,List.length_cons,List.length_nil,Nat.reduceAdd,Nat.reduceSub,List.replicate,List.cons_append,List.nil_append])
 (repeat(any_goals(first|((have hz0:=hb0 hc);(with_reducible refine Q2n ?_ ?_);rfl;intro K hK;refine OpA.nilrow_after 2 7 5 1 (Q3p ?_);(simp(disch:=omega) only[go_sem,e1,Q0o]);(repeat(refine And.intro (by first|assumption|rfl) ?_));refine hK _ ?_;clear hK K;clear hb0)|((with_reducible refine Q0b ?_ ?_);rfl;intro K hK;simp(disch:=omega) only[go_sem,e1,Q0o];((repeat(refine ndI (by first|assumption|omega|rfl) ?_));refine hK _ ?_;clear hK K))|((with_reducible refine Q0b ?_ ?_);rfl;intro K hK;refine Q9w rfl rfl (by first|exact .inl rfl) ?_ rfl ?_;(focus(simp(disch:=omega) only[go_sem];try rfl));(intro b hb0;simp(disch:=omega) only[eq_self,go_sem,e1,Q0o];(with_reducible refine hK _ ?_);clear hK K))|(with_reducible first|(refine Q0c ?_;refine hR _ ?_;clear hR R)|((first|refine Q0e ?_);intro J hJ hJ')|(refine Q0a ?_;intro R hR)|(refine hJ _ ?_;clear hJ hJ' J)|refine Q0h ?_|refine Q0j ?_)|((with_reducible refine hJ' _ _ ?_ ?_);(focus(simp;done));clear hJ hJ' J)|((with_reducible apply Q0d);rfl;rfl;all_goals(intro hc;first|(try simp only at hc))))))
 all_goals(try(obtain rfl:=List.eq_nil_of_length_eq_zero hz0))
 all_goals exact⟨by simp,⟨_,rfl,AV.le_refl _⟩,Q0g (by simp[leH,hget])⟩
theorem Z0s(ex:Bool)(l:List Nat)(hl:l.length≤1000000):Fn Tryz.prog 38 [bsl ex l] [] (bsl false l) []:=(Z0t ex l hl).frz (by rw[Q0s Q2x])
theorem X6k(A B:List Ev)(y:Ev):raE (A++y::B)=raE A++(c14 y.kind y.dep y.self y.to (y.op:Int) (l0 y.key) (l1 y.key) (l2 y.key) (l3 y.key) (l0 y.val) (l1 y.val) (l2 y.val) (l3 y.val) (bsl false y.data)++raE B):=by simp[raE,Ev.pv]
def Ev.with(e:Ev)(d:List Nat):Ev:={e with data:=d}
theorem ecell{A B:List Ev}{y:Ev}{k:Nat}(hA:A.length=k):(raE (A++y::B))[k*14+13]? = some (bsl false y.data):=by
 have hl:=Q9k A
 rw[hA] at hl
 rw[X6k]
 rw[List.getElem?_append_right (by omega),hl,show k*14+13-k*14=13 by omega];rfl
theorem spl_data{A B:List Ev}{y:Ev}{k:Nat}(hA:A.length=k)(d:List Nat):spl (raE (A++y::B)) (k*14+13) [bsl false d]=raE (A++y.with d::B):=by
 have hl:=Q9k A
 rw[hA] at hl
 rw[X6k,X6k]
 generalize raE A=X at hl
 unfold spl
 rw[List.take_append,List.drop_append]
 simp[hl,Ev.with,List.take_of_length_le,show k*14+13-k*14=13 by omega,show k*14+13+1-k*14=14 by omega,show X.length≤k*14+13 by omega,List.drop_eq_nil_of_le,show k*14≤k*14+13+1 by omega]
def cutE(e:Ev):Ev:=e.with (e.data.take 80)
def cutP(p:Ph):Ph:={p with tr:=(p.tr.take 60).map cutE}
def cutC(c:Cs):Cs:=⟨c.snd,(c.ph.take 4).map cutP,c.cd.take 60⟩
def Ev.raw(e:Ev):Prop:=e.key<WW∧e.val<WW∧e.data.length≤maxLen∧(∀b∈e.data,b<256)∧U e.self∧U e.to
def Ph.raw(p:Ph):Prop:=U p.who∧p.tr.length≤maxLen∧∀e∈p.tr,e.raw
def Cs.raw(c:Cs):Prop:=U c.snd∧(c.ph.length≤maxLen∧∀p∈c.ph,p.raw)∧c.cd.length≤maxLen∧∀a∈c.cd,U a
theorem cutC_ok{c:Cs}(h:c.raw):(cutC c).ok:=by
 obtain⟨h1,⟨h2,h3⟩,h4,h5⟩:=h
 refine⟨h1,⟨?_,fun p hp=>?_⟩,?_,fun a ha=>h5 a (List.mem_of_mem_take ha)⟩
 · show((c.ph.take 4).map cutP).length≤1000
   rw[List.length_map,List.length_take];omega
 · obtain⟨q,hq,rfl⟩:=List.mem_map.1 hp
   obtain⟨u1,u2,u3⟩:=h3 q (List.mem_of_mem_take hq)
   refine⟨u1,?_,fun e he=>?_⟩
   · show((q.tr.take 60).map cutE).length≤1000
     rw[List.length_map,List.length_take];omega
   · obtain⟨f,hf,rfl⟩:=List.mem_map.1 he
     obtain⟨v1,v2,v3,v4,v5,v6⟩:=u3 f (List.mem_of_mem_take hf)
     refine⟨v1,v2,?_,fun b hb=>v4 b (List.mem_of_mem_take hb),v5,v6⟩
     show(f.data.take 80).length≤1000
     rw[List.length_take];omega
 · show(c.cd.take 60).length≤1000
   rw[List.length_take];omega
theorem X3d(c:Cs):(cutC c).ph.length≤4:=by
 show((c.ph.take 4).map cutP).length≤4
 rw[List.length_map,List.length_take];omega
abbrev raP(l:List Ph):List AV:=(l.flatMap Ph.pv).map .c
abbrev phR(p:Ph):List AV:=[vi .i64 p.role,vi .u64 p.who,vb p.stk,.row 700 58 14 p.tr.length]
def Q1w:Nat→List Ph→List AV
 |_,[]=>[]
 |0,p::l=>phR p++raP l
 |k+1,p::l=>p.pv.map .c++Q1w k l
def Q3n(k:Nat)(l:List Ph):List AV:=match l[k]? with|some p=>raE p.tr|none=>[]
theorem X1k:∀(k:Nat) (l:List Ph),(Q1w k l).length=l.length*4
 |_,[]=>by unfold Q1w;rfl
 |0,p::l=>by
  unfold Q1w
  rw[List.length_append,List.length_map,Q0s X1a,List.length_cons]
  simp only[List.length_cons,List.length_nil]
  omega
 |k+1,p::l=>by
  unfold Q1w
  rw[List.length_append,List.length_map,X1a,X1k k l,List.length_cons]
  omega
theorem X0b:∀(k:Nat) (l:List Ph) (p:Ph),Q1w k (l++[p])=Q1w k l++if l.length=k then phR p else p.pv.map .c
 |0,[],p=>by simp[Q1w]
 |k+1,[],p=>by simp[Q1w]
 |0,q::l,p=>by simp[Q1w,raP]
 |k+1,q::l,p=>by
  have h:=X0b k l p
  simp only[List.cons_append,Q1w,h,List.append_assoc,List.length_cons,Nat.add_right_cancel_iff]
theorem X0c:∀(k:Nat) (l:List Ph),l.length≤k→Q1w k l=raP l
 |_,[],_=>by simp[Q1w]
 |0,p::l,h=>absurd h (by simp)
 |k+1,p::l,h=>by
  have h:=X0c k l (by simpa using h)
  simp[Q1w,h,raP]
theorem Q6o:∀(k:Nat) (l:List Ph) (d:Nat),d≠700→AV.refsL d (Q1w k l)=false
 |_,[],d,_=>by simp[Q1w,AV.refsL]
 |0,p::l,d,h=>by simp[Q1w,AV.refsL,AV.refs,Ne.symm h]
 |k+1,p::l,d,h=>by simp[Q1w,Q6o k l d h]
theorem X1j:∀(k:Nat) (l:List Ph) (ρ : Nat→Nat),ρ 700=700→AV.renL ρ (Q1w k l)=Q1w k l
 |_,[],ρ,_=>by simp[Q1w,AV.renL]
 |0,p::l,ρ,h=>by simp[Q1w,AV.renL,AV.ren,h]
 |k+1,p::l,ρ,h=>by
  simp only[Q1w]
  rw[X1v,Q0r,X1j k l ρ h]
theorem X2l(N:List Nat)(l r:List AV):AV.inNL N (l++r)=(AV.inNL N l&&AV.inNL N r):=by
 induction l with
 |nil=>simp[AV.inNL]
 |cons x l ih=>simp[AV.inNL,ih,Bool.and_assoc]
theorem X5k:∀(k:Nat) (l:List Ph) (N:List Nat),N.contains 700=true→AV.inNL N (Q1w k l)=true
 |_,[],N,_=>by simp[Q1w,AV.inNL]
 |0,p::l,N,h=>by simp[Q1w,AV.inNL,AV.inN,h];simpa using h
 |k+1,p::l,N,h=>by
  simp only[Q1w]
  rw[X2l,Q0v,X5k k l N h]
  rfl
end
section
open Go.RowKit
open Nat (reduceBEq)
attribute [-go_sem] IntKind.bits
set_option maxRecDepth 20000
set_option maxHeartbeats 4000000
abbrev phT:Nat:=54
abbrev evT:Nat:=58
abbrev zC:List AV:=[vi .u64 0,nilA,nilA]
abbrev stU(s:Int)(M:List Ph)(r rc:Nat)(m:Nat)(cd cs X:List AV)(n i:Nat):St:=⟨[.any,.any,.ptr 2 0,.ptr 3 0,.any,.any,.any,.any,.any,.any,.any,.any,.any,.any,.any,.any,.any,.any,.any,.any,.any,.any,.any,.any,phs false M,vi .i64 M.length,vi .i64 i,.any,.any,.any,.any,.any,.any,.any,.any,.any,.any,.any,.any,.any,.any,.any,.any,.any,.any,.any,.any,.any,.any,.any,.any,.any,.any,.any,.any,.any,.any,.any,.any,.any,.any,.any,.any,.any,.any,.any,.any,.any,.any,.any,.any,.any,.any,.any,.any],[(2,zC),(3,[vi .u64 s,.row r phT 4 n,.row rc 23 1 m]),(r,cs),(rc,cd),(700,X)]⟩
abbrev X4z(s:Int)(M:List Ph)(m:Nat)(cd cs:List AV)(y:Ph)(i n:Nat)(tc:AV)(j:Nat)(X E:List AV):St:=⟨[.any,.any,.ptr 2 0,.ptr 3 0,.any,.ptr 5 0,.any,.any,.any,.any,.any,.any,.any,.any,.any,.any,.any,.any,.any,.any,.any,.any,.any,.any,phs false M,vi .i64 M.length,vi .i64 i,.any,.any,.any,.any,.any,.any,.any,.any,.any,.any,.any,.any,.any,.any,vi .i64 n,vi .i64 j,.any,.any,.any,.any,.any,.any,.any,.any,.any,.any,.any,.any,.any,.any,.any,.any,.any,.any,.any,.any,.any,.any,.any,.any,.any,.any,.any,.any,.any,.any,.any,.any],[(2,zC),(3,[vi .u64 s,.row 600 phT 4 i,.row 601 23 1 m]),(5,[vi .i64 y.role,vi .u64 y.who,vb y.stk,tc]),(600,cs),(601,cd),(700,X),(37,E)]⟩
abbrev X2t(s:Int)(M:List Ph)(m:Nat)(cd cs:List AV)(y:Ph)(i n:Nat)(tc:AV)(j:Nat)(r:Nat)(E:List AV):St:=⟨[.any,.any,.ptr 2 0,.ptr 3 0,.any,.ptr 5 0,.any,.any,.any,.any,.any,.any,.any,.any,.any,.any,.any,.any,.any,.any,.any,.any,.any,.any,phs false M,vi .i64 M.length,vi .i64 i,.any,.any,.any,.any,.any,.any,.any,.any,.any,.any,.any,.any,.any,.any,vi .i64 n,vi .i64 j,.any,.any,.any,.any,.any,.any,.any,.any,.any,.any,.any,.any,.any,.any,.any,.any,.any,.any,.any,.any,.any,.any,.any,.any,.any,.any,.any,.any,.any,.any,.any,.any],[(2,zC),(3,[vi .u64 s,.row 600 phT 4 i,.row 601 23 1 m]),(5,[vi .i64 y.role,vi .u64 y.who,vb y.stk,tc]),(600,cs),(601,cd),(r,E)]⟩
theorem few_frz(s:Int)(M:List Ph)(m:Nat)(cd cs:List AV)(y:Ph)(i:Nat)(N:List Ev)(X:List AV)(h1:AV.frzL 37 (N.flatMap Ev.pv) cd=cd)(h2:AV.frzL 37 (N.flatMap Ev.pv) cs=cs)(h3:AV.frzL 37 (N.flatMap Ev.pv) X=X):(X4z s M m cd cs y i N.length (.row 37 evT 14 N.length) N.length X (raE N)).to (X2t s M m cd cs y i N.length (evs false N) N.length 700 X):=by
 have h:=St.to.frz (σ:=X4z s M m cd cs y i N.length (.row 37 evT 14 N.length) N.length X (raE N)) 37 (pcs:=N.flatMap Ev.pv) rfl
 have e:((X4z s M m cd cs y i N.length (.row 37 evT 14 N.length) N.length X (raE N)).frz 37 (N.flatMap Ev.pv))=X2t s M m cd cs y i N.length (evs false N) N.length 700 X:=by
  simp[St.frz,AV.frz,AV.frzL,frzH,Q0s Q9v,h1,h2,h3]
 rwa [e] at h
theorem few_rn(s:Int)(M:List Ph)(m:Nat)(cd cs:List AV)(y:Ph)(i n:Nat)(X E:List AV)(h1:∀ρ,ρ 700=700→AV.renL ρ cs=cs)(h2:∀ρ,AV.renL ρ cd=cd)(h3:∀ρ,AV.renL ρ E=E)(g2:∀N,AV.inNL N cd=true)(g3:∀N,AV.inNL N E=true)(gi:∀N,AV.inNL N cs=true):(X4z s M m cd cs y i n (.row 37 evT 14 n) n X E).to (X2t s M m cd cs y i n (.row 700 evT 14 n) n 700 E):=by
 refine St.to.trans (St.to.of_le (τ:=X2t s M m cd cs y i n (.row 37 evT 14 n) n 37 E) (St.le_of (by simp[leT]) (by simp[leH,hget]))) ?_
 have h:=St.to.rn (σ:=X2t s M m cd cs y i n (.row 37 evT 14 n) n 37 E) (fun r=>if r=37 then 700 else r) (fun r=>if r=700 then 37 else r) [2,3,5,600,601,37] (by simp[AV.inNL,AV.inN]) (by simp) (by simp[inH,AV.inNL,AV.inN,Q0v,g2,g3,gi]) (by simp) (by simp)
 simp[AV.renL,AV.ren,renH,h1,h2,h3] at h
 exact h
theorem stU_rn(s:Int)(M:List Ph)(m:Nat)(cd cs X:List AV)(n i:Nat)(h1:∀ρ,ρ 700=700→AV.renL ρ cs=cs)(h2:∀ρ,AV.renL ρ cd=cd)(h3:∀ρ,AV.renL ρ X=X)(g1:∀N:List Nat,N.contains 700=true→AV.inNL N cs=true)(g2:∀N,AV.inNL N cd=true)(g3:∀N,AV.inNL N X=true):(stU s M 71 601 m cd cs X n i).to (stU s M 600 601 m cd cs X n i):=by
 have h:=St.to.rn (σ:=stU s M 71 601 m cd cs X n i) (fun r=>if r=71 then 600 else r) (fun r=>if r=600 then 71 else r) [2,3,71,601,700] (by simp[AV.inNL,AV.inN]) (by simp) (by simp[inH,AV.inNL,AV.inN,Q0v,g1,g2,g3]) (by simp) (by simp)
 simp[AV.renL,AV.ren,renH,h1,h2,h3] at h
 exact h
theorem X8m(n k:Nat):(if (k:Int)<(n:Int) then(k:Int) else(n:Int))=((min n k:Nat):Int):=by split<;>omega
theorem Q6u{α : Type}(l:List α)(k:Nat):l.take (min l.length k)=l.take k:=by
 rcases Nat.le_total l.length k with h|h
 · rw[Nat.min_eq_left h,List.take_length,List.take_of_length_le h]
 · rw[Nat.min_eq_right h]
theorem X0a(k:Nat)(l:List Ph)(d:Nat):AV.refsL d (Q3n k l)=false:=by
 unfold Q3n
 split
 · exact Q0o d _
 · rfl
theorem Z0u(k:Nat)(l:List Ph)(ρ : Nat→Nat):AV.renL ρ (Q3n k l)=Q3n k l:=by
 unfold Q3n
 split
 · exact Q0r ρ _
 · rfl
theorem cellsX_in(k:Nat)(l:List Ph)(N:List Nat):AV.inNL N (Q3n k l)=true:=by
 unfold Q3n
 split
 · exact Q0v N _
 · rfl
theorem Z0v(k:Nat)(l:List Ph)(pcs:List PV):AV.frzL 37 pcs (Q3n k l)=Q3n k l:=by
 unfold Q3n
 split
 · exact Q7h _ _ _
 · rfl
theorem frzL_app2(r:Nat)(pcs:List PV)(a b:List AV):AV.frzL r pcs (a++b)=AV.frzL r pcs a++AV.frzL r pcs b:=by
 induction a with
 |nil=>simp[AV.frzL]
 |cons x a ih=>simp[AV.frzL,ih]
theorem X1l:∀(k:Nat) (l:List Ph) (pcs:List PV),AV.frzL 37 pcs (Q1w k l)=Q1w k l
 |_,[],pcs=>by simp[Q1w,AV.frzL]
 |0,p::l,pcs=>by simp[Q1w,AV.frzL,AV.frz]
 |k+1,p::l,pcs=>by
  simp only[Q1w]
  rw[frzL_app2,Q7h,X1l k l pcs]
theorem few_fnK(k:Nat)(c:Cs)(hc:c.raw):Fn Tryz.prog 9 [csA c] [] (.agg [vi .u64 c.snd,.row 600 phT 4 (cutC c).ph.length,.row 601 23 1 (cutC c).cd.length]) [(600,Q1w k (cutC c).ph),(601,raA (cutC c).cd),(700,Q3n k (cutC c).ph)]:=by
 obtain⟨s,ph,cd⟩:=c
 obtain⟨hs,⟨hpl,hpo⟩,hcl,hco⟩:=hc
 dsimp only at hs hpl hpo hcl hco
 have p8:ph.length<9223372036854775808:=Nat.lt_succ_of_le hpl
 have c8:cd.length<9223372036854775808:=Nat.lt_succ_of_le hcl
 have c1:=X5j false (cd.take 60) (by rw[List.length_take];omega)
 have e1:(if (60:Int)<(cd.length:Int) then(60:Int) else(cd.length:Int))=((min cd.length 60:Nat):Int):=X8m cd.length 60
 have e2:(cd.flatMap apv).take (min cd.length 60*1)=(cd.take 60).flatMap apv:=by rw[Q4l Q3s,Q6u]
 have e3:(cd.take 60).length=min cd.length 60:=by rw[List.length_take,Nat.min_comm]
 have e4:(if (4:Int)<(ph.length:Int) then(4:Int) else(ph.length:Int))=((min ph.length 4:Nat):Int):=X8m ph.length 4
 have e5:(ph.flatMap Ph.pv).take (min ph.length 4*4)=(ph.take 4).flatMap Ph.pv:=by rw[Q4l X1a,Q6u]
 have e6:(ph.take 4).length=min ph.length 4:=by rw[List.length_take,Nat.min_comm]
 have hpo':∀p∈ph.take 4,p.raw:=fun p hp=>hpo p (List.mem_of_mem_take hp)
 show Fn Tryz.prog 9 [.agg [vi .u64 s,phs false ph,asl false cd]] [] (.agg [vi .u64 s,.row 600 phT 4 ((ph.take 4).map cutP).length,.row 601 23 1 (cd.take 60).length]) [(600,Q1w k ((ph.take 4).map cutP)),(601,raA (cd.take 60)),(700,Q3n k ((ph.take 4).map cutP))]
 have h4:(ph.take 4).length≤4:=by rw[List.length_take];omega
 rw[e3] at c1
 rw[←e3] at e1 e2 c1
 rw[Nat.mul_one] at e2
 rw[←e6] at e4 e5
 generalize cd.take 60=D at *
 generalize ph.take 4=M at *
 unfold rcA at c1
 have f1:∀d,AV.refsL d ((D.flatMap apv).map .c)=false:=fun d=>Q0o d _
 have f4:((D.flatMap apv).map AV.c).length=D.length:=by rw[List.length_map,Q0s Q3s,Nat.mul_one]
 rw[show(M.map cutP).length=M.length from List.length_map _]
 (refine Q0t Tryz.func9 rfl (by rfl) ?_;simp only[Tryz.ntmps9,List.length_cons,List.length_nil,Nat.reduceAdd,Nat.reduceSub,List.replicate,List.cons_append,List.nil_append])
 (repeat(any_goals(first|((with_reducible refine Q0b ?_ ?_);rfl;intro K hK;simp(disch:=omega) only[go_sem,e1,e2,Bool.false_and,Nat.mul_one];((repeat(refine ndI (by first|assumption|rfl) ?_));refine hK _ ?_;clear hK K))|(with_reducible first|(refine Q0c ?_;refine hR _ ?_;clear hR R)|((first|refine Q0e ?_);intro J hJ hJ')|(refine Q0a ?_;intro R hR)|(refine hJ _ ?_;clear hJ hJ' J))|((first|((with_reducible apply Q0x);rfl;rfl;(simp(disch:=omega) only[rdE,rdOf,go_sem,e1,e2,Bool.false_and,Nat.mul_one];rfl);(intro τ hA hQ hN;((try simp only[Q1i,Op.operands,Call.operands,go_sem,e1,e2,Bool.false_and,Nat.mul_one,go_sem,List.mem_cons,List.not_mem_nil,forall_eq_or_imp,forall_eq,List.append_toArray,Option.toArray] at hA);(try simp only[go_sem,e1,e2,Bool.false_and,Nat.mul_one,List.mem_cons,List.not_mem_nil,forall_eq_or_imp,forall_eq] at hQ hN);(first|(revert hA;intro hA));(first|(revert hQ;intro hQ));(first|(revert hN;intro hN));simp(disch:=omega) only[go_sem,e1,e2,Bool.false_and,Nat.mul_one,go_sem,hA,hQ,hN];(repeat(refine ndI (by first|assumption|omega|rfl) ?_));(first|apply Q1b)))));(simp(disch:=omega) only[St.eff,setO,Q0u,go_sem,e1,e2,Bool.false_and,Nat.mul_one]))|((with_reducible refine Q0w ?_ ?_ ?_ ?_);kernel_rfl;kernel_rfl;(first|kernel_rfl);intro R hR))))
 refine X5b c1 rfl rfl rfl rfl rfl Tryz.func36 (by kernel_rfl) rfl ?_ rfl (by omega) ?_
 · simp only[Q1d,Q1x,AV.ren,go_sem]
 simp only[St.eff,setO,Q0u,go_sem]
 (have W:=ndI e4 (ndI e5 (ndI f1 f4));(repeat(any_goals(first|((with_reducible refine Q0b ?_ ?_);rfl;intro K hK;simp(disch:=omega) only[go_sem,W,Bool.false_and];((repeat(refine ndI (by first|assumption|omega|rfl) ?_));refine hK _ ?_;clear hK K))|(with_reducible first|(refine Q0c ?_;refine hR _ ?_;clear hR R)|((first|refine Q0e ?_|refine Q0f ?_);intro J hJ hJ')|(refine Q0a ?_;intro R hR)|(refine hJ _ ?_;clear hJ hJ' J))|((with_reducible refine Q0z ?_ ?_);(apply Q2e);(focus(repeat(first|exact Sims.nil|((apply Sims.cons);(focus(first|((apply Ef.sim_row);assumption)|exact Ef.sim_refl _))))));kernel_rfl;(with_reducible refine hR _ ?_);clear hR R)|((first|((with_reducible apply Q0x);rfl;rfl;(simp(disch:=omega) only[rdE,rdOf,go_sem,W,Bool.false_and];rfl);(intro τ hA hQ hN;((try simp only[Q1i,Op.operands,Call.operands,go_sem,W,Bool.false_and,go_sem,List.mem_cons,List.not_mem_nil,forall_eq_or_imp,forall_eq,List.append_toArray,Option.toArray] at hA);(try simp only[go_sem,W,Bool.false_and,List.mem_cons,List.not_mem_nil,forall_eq_or_imp,forall_eq] at hQ hN);(first|(revert hA;intro hA));(first|(revert hQ;intro hQ));(first|(revert hN;intro hN));simp(disch:=omega) only[go_sem,W,Bool.false_and,go_sem,hA,hQ,hN];(repeat(refine ndI (by first|assumption|rfl) ?_));(first|apply Q1b|apply Q4a))))|((first|((with_reducible apply X2w);rfl;rfl;rfl));(intro τ hA hQ hN;((try simp(disch:=omega) only[Q1i,Op.operands,Call.operands,go_sem,W,Bool.false_and,go_sem,List.mem_cons,List.not_mem_nil,forall_eq_or_imp,forall_eq,List.append_toArray,Option.toArray] at hA);(try simp(disch:=omega) only[go_sem,W,Bool.false_and,List.mem_cons,List.not_mem_nil,forall_eq_or_imp,forall_eq] at hQ);(first|(revert hA;intro hA));(first|(revert hQ;intro hQ));simp(disch:=omega) only[go_sem,W,Bool.false_and,go_sem,hA,hQ,hN];(repeat(refine ndI (by first|assumption|rfl) ?_));exact X8x _ _ _ _))));(simp(disch:=omega) only[St.eff,setO,Q0u,go_sem,W,Bool.false_and]))))))
 have snoc:∀{i:Nat} {y:Ph},M[i]? = some y→(M.take (i+1)).map cutP=(M.take i).map cutP++[cutP y]:=fun h=>by
  rw[List.take_add_one,h,List.map_append];rfl
 have tl:∀i,i≤M.length→((M.take i).map cutP).length=i:=fun i h=>by rw[List.length_map,List.length_take];omega
 refine Q3r M.length (fun i=>stU s M 600 601 D.length (raA D) (Q1w k ((M.take i).map cutP)) (Q3n k ((M.take i).map cutP)) i i) ?_ ?_
 · refine St.to.trans (St.to.nilcell 3 600 phT 4 1 (cs:=[vi .u64 s,nilA,.row 16 23 1 D.length]) (by simp[hget]) rfl (by simp[St.free,Q1z,AV.refsL,AV.refs]) (by decide) (by decide)) ?_
   refine St.to.trans (St.to.noname 700 evT (by simp[St.free,Q1z,hput,AV.refsL,AV.refs]) (by decide)) ?_
   refine St.to.trans (St.to.of_le (τ:=stU s M 600 16 D.length (raA D) [] [] 0 0) (St.le_of (by simp[leT]) (by simp[leH,hget,hput]))) ?_
   have h:=St.to.rn (σ:=stU s M 600 16 D.length (raA D) [] [] 0 0) (fun r=>if r=16 then 601 else r) (fun r=>if r=601 then 16 else r) [2,3,600,16,700] (by simp[AV.inNL,AV.inN]) (by simp) (by simp[inH,AV.inNL,AV.inN,Q0v]) (by simp) (by simp)
   have e0:Q3n k ([]:List Ph)=[]:=rfl
   have e9:Q1w k ([]:List Ph)=[]:=by unfold Q1w;rfl
   simp only[List.take_zero,List.map_nil,e0,e9]
   simp[AV.renL,AV.ren,renH] at h
   exact h
 intro i hi J hJ hJ'
 (try dsimp only at hJ ⊢)
 have k8:M.length<9223372036854775808:=by omega
 rcases Nat.lt_or_ge i M.length with hlt|hge
 · obtain⟨y,hy⟩:∃x,M[i]? = some x:=⟨_,List.getElem?_eq_getElem hlt⟩
   have k1:(decide ((i:Int)<(M.length:Int)))=true:=decide_eq_true (by omega)
   have k2:=Q4x hy
   have k7:(i:Int)+1=((i+1:Nat):Int):=by omega
   have yo:=hpo' y (List.mem_of_getElem? hy)
   have y8:y.tr.length<9223372036854775808:=Nat.lt_succ_of_le yo.2.1
   have ce:=cloneE_fn false (y.tr.take 60) (by rw[List.length_take];omega)
   have g1:(if (60:Int)<(y.tr.length:Int) then(60:Int) else(y.tr.length:Int))=((min y.tr.length 60:Nat):Int):=X8m y.tr.length 60
   have g2:(y.tr.flatMap Ev.pv).take (min y.tr.length 60*14)=(y.tr.take 60).flatMap Ev.pv:=by rw[Q4l Q9v,Q6u]
   have g3:(y.tr.take 60).length=min y.tr.length 60:=by rw[List.length_take,Nat.min_comm]
   have yo':∀e∈y.tr.take 60,e.raw:=fun e he=>yo.2.2 e (List.mem_of_mem_take he)
   have ey:cutP y={y with tr:=(y.tr.take 60).map cutE}:=rfl
   have sn:=snoc hy
   have tli:=tl i hi
   have ck:=X0b k ((M.take i).map cutP) (cutP y)
   rw[←sn,tli] at ck
   have cx:Q3n k ((M.take (i+1)).map cutP)=if i=k then raE ((y.tr.take 60).map cutE) else Q3n k ((M.take i).map cutP):=by
    rw[sn]
    unfold Q3n
    rcases Nat.lt_trichotomy k i with h|h|h
    · rw[if_neg (by omega),List.getElem?_append_left (by omega)]
    · rw[if_pos h.symm,List.getElem?_append_right (by omega),tli,h,Nat.sub_self];rfl
    · rw[if_neg (by omega),List.getElem?_eq_none (by rw[List.length_append,tli];simp;omega),List.getElem?_eq_none (by omega)]
   have cz:i=k→Q3n k ((M.take i).map cutP)=[]:=fun h=>by
    unfold Q3n
    rw[List.getElem?_eq_none (by omega)]
   have q1:=fun d h=>Q6o k ((M.take i).map cutP) d h
   have q2:=fun ρ h=>X1j k ((M.take i).map cutP) ρ h
   have q3:=fun N h=>X5k k ((M.take i).map cutP) N h
   have q5:=fun pcs=>X1l k ((M.take i).map cutP) pcs
   have q4:=X1k k ((M.take i).map cutP)
   rw[tli] at q4
   have x1:=fun d=>X0a k ((M.take i).map cutP) d
   have x2:=fun ρ=>Z0u k ((M.take i).map cutP) ρ
   have x4:=fun pcs=>Z0v k ((M.take i).map cutP) pcs
   have x3:=fun N=>cellsX_in k ((M.take i).map cutP) N
   have hP:i=k→∀N,AV.inNL N (Q1w k ((M.take i).map cutP))=true:=fun h N=>by
    rw[X0c _ _ (by omega)];exact Q0v N _
   rw[ck,cx] at hJ
   generalize Q1w k ((M.take i).map cutP)=cs at q1 q2 q3 q4 q5 hP hJ ck ⊢
   generalize Q3n k ((M.take i).map cutP)=X at x1 x2 x3 x4 cx cz hJ ⊢
   have hcp:cutP y=⟨y.role,y.who,y.stk,(y.tr.take 60).map cutE⟩:=rfl
   rw[hcp] at hJ
   rw[←g3] at g1 g2
   clear snoc sn ck cx hcp ey tl
   generalize y.tr.take 60=N at *
   have hJ0:=fun σ'=>hJ σ' (by omega)
   (have W:=ndI k1 (ndI k2 (ndI k7 (ndI g1 (ndI g2 (ndI q1 (ndI q2 (ndI q3 (ndI q4 (ndI x1 (ndI x2 x3))))))))));(repeat(any_goals(first|((with_reducible refine Q0l ?_ ?_ ?_);rfl;rfl;intro K hK;(apply Q1c (ce) (fun r=>37);rfl;rfl;rfl;rfl;exact Tryz.func37;kernel_rfl;rfl;rfl;(intro r hr q hq h;simp(disch:=omega) only[List.map_cons,List.map_nil,List.cons_append,List.nil_append,List.mem_cons,List.not_mem_nil,or_false] at hr hq;(try dsimp only at h);first|omega);(simp(disch:=omega) only[Q1d,Q1x,AV.ren,AV.renL,Q0r,List.mem_cons,List.not_mem_nil,forall_eq_or_imp,forall_eq,Q1r,List.contains_cons,List.contains_nil,AV.refsL,AV.refs,Q0o,AV.inN,AV.inNL,inH,Q0v,go_sem,W,Bool.false_and]));(simp(disch:=omega) only[Q0u,Q1m,renH,AV.ren,AV.renL,Q0r,go_sem,W,Bool.false_and];refine hK _ ?_;clear hK K))|((with_reducible refine Q0b ?_ ?_);rfl;intro K hK;simp(disch:=omega) only[go_sem,W,Bool.false_and];((repeat(refine ndI (by first|assumption|omega|rfl) ?_));refine hK _ ?_;clear hK K))|(with_reducible first|(refine Q0c ?_;refine hR _ ?_;clear hR R)|((first|refine Q0e ?_|refine Q0f ?_);intro J hJ hJ')|(refine Q0a ?_;intro R hR)|(refine hJ _ ?_;clear hJ hJ' J)|refine Q0h ?_)|((with_reducible apply Q0d);rfl;rfl;all_goals(intro hc;first|(cases hc;done)|(try simp only at hc)))))))
   refine Q3r N.length (fun j=>if j<N.length then X4z s M D.length (raA D) cs y i N.length (.row 37 evT 14 N.length) j X (raE ((N.take j).map cutE++N.drop j)) else if i=k then X2t s M D.length (raA D) cs y i N.length (.row 700 evT 14 N.length) j 700 (raE (N.map cutE)) else X2t s M D.length (raA D) cs y i N.length (evs false (N.map cutE)) j 700 X) ?_ ?_
   · have r0:∀ρ,AV.renL ρ (raA D)=raA D:=fun ρ=>Q0r ρ _
     by_cases h0:0<N.length
     · rw[if_pos h0]
       exact St.to.of_le (St.le_of (by simp[leT]) (by simp[leH,hget]))
     · obtain rfl:N=[]:=List.eq_nil_of_length_eq_zero (by omega)
       rw[if_neg h0]
       by_cases hik:i=k
       · rw[if_pos hik]
         exact St.to.trans (St.to.of_le (τ:=X4z s M D.length (raA D) cs y i 0 (.row 37 evT 14 0) 0 X (raE [])) (St.le_of (by simp[leT]) (by simp[leH,hget]))) (few_rn s M D.length (raA D) cs y i 0 X (raE []) q2 r0 (fun ρ=>Q0r ρ _) (fun N=>Q0v N _) (fun N=>Q0v N _) (hP hik))
       · rw[if_neg hik]
         exact St.to.trans (St.to.of_le (τ:=X4z s M D.length (raA D) cs y i 0 (.row 37 evT 14 0) 0 X (raE [])) (St.le_of (by simp[leT]) (by simp[leH,hget]))) (few_frz s M D.length (raA D) cs y i [] X (Q7h _ _ _) (q5 _) (x4 _))
   intro j hj J hJ hJ'
   (try dsimp only at hJ ⊢)
   have n8:N.length<9223372036854775808:=by omega
   have r0:∀ρ,AV.renL ρ (raA D)=raA D:=fun ρ=>Q0r ρ _
   rcases Nat.lt_or_ge j N.length with hjt|hje
   · obtain⟨e,he⟩:∃e,N[j]? = some e:=⟨N[j],List.getElem?_eq_getElem hjt⟩
     have c1:(decide ((j:Int)<(N.length:Int)))=true:=by simpa using hjt
     have c7:(j:Int)+1=((j+1:Nat):Int):=by omega
     rw[if_pos hjt]
     have hA:((N.take j).map cutE).length=j:=by rw[List.length_map,List.length_take];omega
     have d1:N.drop j=e::N.drop (j+1):=by
      rw[List.drop_eq_getElem_cons hjt]
      congr 1
      exact(List.getElem?_eq_some_iff.1 he).2
     have d2:(N.take (j+1)).map cutE++N.drop (j+1)=(N.take j).map cutE++(e.with (e.data.take 80))::N.drop (j+1):=by
      rw[List.take_add_one,he,List.map_append];simp[cutE]
     have eo:=yo' e (List.mem_of_getElem? he)
     have e8:e.data.length<9223372036854775808:=Nat.lt_succ_of_le eo.2.2.1
     have cb:=Z0s false (e.data.take 80) (by rw[List.length_take];omega)
     have m1:(if (80:Int)<(e.data.length:Int) then(80:Int) else(e.data.length:Int))=((min e.data.length 80:Nat):Int):=X8m e.data.length 80
     have m2:(e.data.flatMap bpv).take (min e.data.length 80)=(e.data.take 80).flatMap bpv:=by
      have:=Q4l (f:=bpv) Q2x e.data (min e.data.length 80)
      rw[Nat.mul_one] at this
      rw[this,Q6u]
     have m3:(e.data.take 80).length=min e.data.length 80:=by rw[List.length_take,Nat.min_comm]
     have fin:∀σ':St,σ'.to (X4z s M D.length (raA D) cs y i N.length (.row 37 evT 14 N.length) (j+1) X (raE ((N.take (j+1)).map cutE++N.drop (j+1))))→J .normal σ':=fun σ' h=>hJ σ' (by omega) (by
      by_cases hl:j+1<N.length
      · rw[if_pos hl];exact h
      · have ej:j+1=N.length:=by omega
        rw[if_neg hl]
        rw[ej,List.take_length,List.drop_length,List.append_nil] at h
        rw[ej]
        have lm:(N.map cutE).length=N.length:=List.length_map _
        by_cases hik:i=k
        · rw[if_pos hik]
          exact h.trans (few_rn s M D.length (raA D) cs y i N.length X (raE (N.map cutE)) q2 r0 (fun ρ=>Q0r ρ _) (fun N=>Q0v N _) (fun N=>Q0v N _) (hP hik))
        · rw[if_neg hik]
          have hf:=few_frz s M D.length (raA D) cs y i (N.map cutE) X (Q7h _ _ _) (q5 _) (x4 _)
          rw[lm] at hf
          exact h.trans hf)
     rw[d2] at fin
     rw[d1]
     generalize (N.take j).map cutE=A at hA fin ⊢
     generalize N.drop (j+1)=B at fin ⊢
     have u1:=ecell (B:=B) (y:=e) hA
     have u3:=spl_data (B:=B) (y:=e) hA (e.data.take 80)
     have u5:=Q9k (A++e::B)
     have v1:j*14+14≤(raE (A++e::B)).length:=by rw[u5,List.length_append,List.length_cons];omega
     rw[←m3] at m1 m2
     generalize e.data.take 80=D8 at *
     have w1:∀d,AV.refsL d (raE (A++e::B))=false:=fun d=>Q0o d _
     have w2:∀d,AV.refsL d (raE (A++e.with D8::B))=false:=fun d=>Q0o d _
     (have W:=ndI c1 (ndI c7 (ndI m1 (ndI m2 (ndI u1 (ndI u3 (ndI w1 (ndI w2 (ndI q1 (ndI x1 @wrI)))))))));(repeat(any_goals(first|((with_reducible refine Q0b ?_ ?_);rfl;intro K hK;simp(disch:=omega) only[go_sem,W,Bool.false_and,Nat.mul_one];((repeat(refine ndI (by first|assumption|rfl) ?_));refine hK _ ?_;clear hK K))|(with_reducible first|(refine Q0c ?_;refine hR _ ?_;clear hR R)|((first|refine Q0e ?_|refine Q0f ?_);intro J hJ hJ')|(refine Q0a ?_;intro R hR)|(refine hJ _ ?_;clear hJ hJ' J)|refine Q0h ?_)|((with_reducible refine hJ' _ _ ?_ ?_);(focus(simp;done));clear hJ hJ' J)|((with_reducible apply Q0d);rfl;rfl;all_goals(intro hc;first|(cases hc;done)|(try simp only at hc)))|((with_reducible refine Q0z ?_ ?_);(apply Q2e);(focus(repeat(first|exact Sims.nil|((apply Sims.cons);(focus(first|((apply Ef.sim_row);assumption)|exact Ef.sim_refl _))))));kernel_rfl;(with_reducible refine hR _ ?_);clear hR R)|((first|((with_reducible apply Q1h);rfl;rfl;((apply Q0y (cb);rfl;rfl;rfl;rfl;exact Tryz.func38);kernel_rfl;rfl;(focus((simp(disch:=omega) only[go_sem,W,Bool.false_and,Nat.mul_one]);(try rfl);done));(first|rfl)))|((with_reducible apply Q0x);rfl;rfl;(simp(disch:=omega) only[rdE,rdOf,go_sem,W,Bool.false_and,Nat.mul_one];rfl);(intro τ hA hQ hN;((try simp only[Q1i,Op.operands,Call.operands,go_sem,W,Bool.false_and,Nat.mul_one,go_sem,List.mem_cons,List.not_mem_nil,forall_eq_or_imp,forall_eq,List.append_toArray,Option.toArray] at hA);(try simp only[go_sem,W,Bool.false_and,Nat.mul_one,List.mem_cons,List.not_mem_nil,forall_eq_or_imp,forall_eq] at hQ hN);(first|(revert hA;intro hA));(first|(revert hQ;intro hQ));(first|(revert hN;intro hN));simp(disch:=omega) only[go_sem,W,Bool.false_and,Nat.mul_one,go_sem,hA,hQ,hN];(repeat(refine ndI (by first|assumption|omega|rfl) ?_));(first|apply Q1b|apply Q4a)))));(simp(disch:=omega) only[St.eff,setO,Q0u,go_sem,W,Bool.false_and,Nat.mul_one]))|((with_reducible refine Q0w ?_ ?_ ?_ ?_);kernel_rfl;kernel_rfl;(simp[Q2a,Q5q,St.free,Q1z,AV.refsL,AV.refs,q1,x1,w1]);intro R hR)))))
     all_goals exact fin _ (St.to.of_le (St.le_of (by simp[leT]) (by simp[leH,hget])))
   · have c1:(decide ((j:Int)<(N.length:Int)))=false:=by simpa using hje
     rw[if_neg (by omega)]
     have f5:(raA D).length=D.length:=by rw[List.length_map,Q0s Q3s,Nat.mul_one]
     have w3:∀d,AV.refsL d (raA D)=false:=fun d=>Q0o d _
     have w4:∀d,AV.refsL d (raE (N.map cutE))=false:=fun d=>Q0o d _
     have q6:cs.length=i*4:=q4
     have lm:(N.map cutE).length=N.length:=List.length_map _
     by_cases hik:i=k
     · rw[if_pos hik]
       rw[if_pos hik,if_pos hik] at hJ0
       dsimp only[X2t]
       (repeat(any_goals(first|((with_reducible refine Q0b ?_ ?_);rfl;intro K hK;simp(disch:=omega) only[go_sem,c1,k7,q1,q6,w3,w4,wrI];((repeat(refine ndI (by first|assumption|omega|rfl) ?_));refine hK _ ?_;clear hK K))|(with_reducible first|(refine Q0c ?_;refine hR _ ?_;clear hR R)|((first|refine Q0e ?_);intro J hJ hJ')|(refine Q0a ?_;intro R hR)|(refine hJ _ ?_;clear hJ hJ' J)|refine Q0q ?_)|((with_reducible refine hJ' _ _ ?_ ?_);(focus(simp;done));clear hJ hJ' J)|((with_reducible apply Q0d);rfl;rfl;all_goals(intro hc;first|(cases hc;done)|(try simp only at hc))))))
       all_goals refine hJ0 _ (St.to.trans (St.to.of_le (τ:=stU s M 71 601 D.length (raA D) (cs++phR ⟨y.role,y.who,y.stk,N.map cutE⟩) (raE (N.map cutE)) (i+1) (i+1)) (St.le_of (by simp[leT]) (by simp[leH,hget]))) (stU_rn s M D.length (raA D) _ _ _ _ ?_ r0 (fun ρ=>Q0r ρ _) ?_ (fun N=>Q0v N _) (fun N=>Q0v N _)))
       · intro ρ h
         rw[X1v,q2 ρ h]
         simp[AV.renL,AV.ren,h]
       · intro N h
         rw[X2l,q3 N h]
         simp[AV.inNL,AV.inN]
         simpa using h
     · rw[if_neg hik]
       rw[if_neg hik,if_neg hik] at hJ0
       dsimp only[X2t]
       (repeat(any_goals(first|((with_reducible refine Q0b ?_ ?_);rfl;intro K hK;simp(disch:=omega) only[go_sem,c1,k7,q1,q6,w3,x1,wrI];((repeat(refine ndI (by first|assumption|omega|rfl) ?_));refine hK _ ?_;clear hK K))|(with_reducible first|(refine Q0c ?_;refine hR _ ?_;clear hR R)|((first|refine Q0e ?_);intro J hJ hJ')|(refine Q0a ?_;intro R hR)|(refine hJ _ ?_;clear hJ hJ' J)|refine Q0q ?_)|((with_reducible refine hJ' _ _ ?_ ?_);(focus(simp;done));clear hJ hJ' J)|((with_reducible apply Q0d);rfl;rfl;all_goals(intro hc;first|(cases hc;done)|(try simp only at hc))))))
       all_goals refine hJ0 _ (St.to.trans (St.to.of_le (τ:=stU s M 71 601 D.length (raA D) (cs++(Ph.pv ⟨y.role,y.who,y.stk,N.map cutE⟩).map .c) X (i+1) (i+1)) (St.le_of (by simp[leT]) (by simp[leH,hget,Ph.pv]))) (stU_rn s M D.length (raA D) _ _ _ _ ?_ r0 x2 ?_ (fun N=>Q0v N _) x3))
       · intro ρ h
         rw[X1v,q2 ρ h,Q0r]
       · intro N h
         rw[X2l,q3 N h,Q0v]
         rfl
 · have k1:(decide ((i:Int)<(M.length:Int)))=false:=decide_eq_false (by omega)
   have ei:i=M.length:=by omega
   rw[ei,List.take_length]
   have w3:∀d,AV.refsL d (raA D)=false:=fun d=>Q0o d _
   have q1:=fun d h=>Q6o k (M.map cutP) d h
   have x1:=fun d=>X0a k (M.map cutP) d
   rw[ei] at k1
   (repeat(any_goals(first|((with_reducible refine Q0b ?_ ?_);rfl;intro K hK;simp(disch:=omega) only[go_sem,k1,q1,x1,w3,wrI];((repeat(refine ndI (by first|assumption|rfl) ?_));refine hK _ ?_;clear hK K))|(with_reducible first|(refine Q0c ?_;refine hR _ ?_;clear hR R)|((first|refine Q0e ?_);intro J hJ hJ')|(refine Q0a ?_;intro R hR)|(refine hJ _ ?_;clear hJ hJ' J)|refine Q0j ?_|refine Q0q ?_)|((with_reducible refine hJ' _ _ ?_ ?_);(focus(simp;done));clear hJ hJ' J)|((with_reducible apply Q0d);rfl;rfl;all_goals(intro hc;first|(cases hc;done)|(try simp only at hc))))))
   all_goals(refine⟨by simp,⟨_,?_,AV.le_refl _⟩,Q0g (by simp[leH,hget])⟩;simp only[Tryz.results9,resL,ldA,Q0m,go_sem])
end
section
open Go.RowKit
open Nat (reduceBEq)
attribute [-go_sem] IntKind.bits
set_option maxRecDepth 20000
set_option maxHeartbeats 2000000
theorem few_row(c:Cs)(hc:c.raw):Fn Tryz.prog 9 [csA c] [] (.agg [vi .u64 c.snd,.row 600 phT 4 (cutC c).ph.length,asl false (cutC c).cd]) [(600,raP (cutC c).ph)]:=by
 have h:=few_fnK 10 c hc
 have h4:=X3d c
 rw[X0c 10 _ (by omega)] at h
 have h1:=h.frzN (d:=601) (pcs:=(cutC c).cd.flatMap apv) (by simp[hget])
 have h2:=h1.weaken (H2:=[(600,raP (cutC c).ph)]) (AV.le_refl _) (fun r cs hr=>by
  rw[Q2r] at hr
  split at hr
  · rename_i e
    subst e;cases hr
    exact⟨[],by simp[frzH,hget]⟩
  · cases hr)
 have e1:((cutC c).cd.flatMap apv).length=(cutC c).cd.length*1:=Q0s Q3s _
 simpa [-List.length_flatMap,AV.frz,AV.frzL,e1] using h2
theorem few_fn(c:Cs)(hc:c.raw):Fn Tryz.prog 9 [csA c] [] (csA (cutC c)) []:=by
 have h1:=(few_row c hc).frzN (d:=600) (pcs:=(cutC c).ph.flatMap Ph.pv) (by simp[hget])
 have e1:((cutC c).ph.flatMap Ph.pv).length=(cutC c).ph.length*4:=Q0s X1a _
 have e2:(cutC c).snd=c.snd:=rfl
 rw[←e2] at h1
 simpa [-List.length_flatMap,AV.frz,AV.frzL,frzH,e1] using h1
def PV.le(p q:PV):Prop:=∀S w v,RVp S w v p→RVp S w v q
theorem PV.le_refl(p:PV):p.le p:=fun _ _ _ h=>h
theorem PV.le_nil(ex:Bool)(sz:Nat):(PV.v (.slice none 0 0)).le (.sl ex sz 0 []):=fun S w v h=>by
 cases h with
 |v _ h=>exact .sl ex sz none 0 0 [] [] (Nat.le_refl _) (Nat.zero_le _) (fun _=>rfl) (fun _=>rfl) rfl (by simp) (fun h=>absurd rfl h) fun j u x hu=>by cases hu
def PV.leL:List PV→List PV→Prop
 |[],[]=>True
 |p::l,q::m=>p.le q∧PV.leL l m
 |_,_=>False
theorem PV.leL_len:∀{l m:List PV},PV.leL l m→l.length=m.length
 |[],[],_=>rfl
 |p::l,q::m,h=>by simp[PV.leL_len h.2]
theorem PV.leL_get:∀{l m:List PV},PV.leL l m→∀(j:Nat) (p q:PV),l[j]? = some p→m[j]? = some q→p.le q
 |[],[],_,j,p,q,h,_=>by simp at h
 |x::l,y::m,h,0,p,q,h1,h2=>by simp at h1 h2;subst h1 h2;exact h.1
 |x::l,y::m,h,j+1,p,q,h1,h2=>PV.leL_get h.2 j p q (by simpa using h1) (by simpa using h2)
theorem PV.le_sl{ex ex':Bool}(he:ex'=true→ex=true){sz n:Nat}{ps qs:List PV}(h:PV.leL ps qs):(PV.sl ex sz n ps).le (.sl ex' sz n qs):=fun S w v hv=>by
 cases hv with
 |sl _ _ A _ c us _ h1 h2 h3 hx hl hn h4 h5=>
  have hlen:=PV.leL_len h
  refine .sl ex' sz A n c us qs h1 h2 h3 (fun e=>hx (he e)) (hl.trans hlen) (by rw[←hlen];exact hn) h4 fun j u x hu hx'=>?_
  have hj:=(List.getElem?_eq_some_iff.1 hx').1
  have hp:ps[j]? = some ps[j]:=List.getElem?_eq_getElem (by omega)
  exact PV.leL_get h j _ _ hp hx' S w u (h5 j u _ hu hp)
theorem AV.le_pv{p q:PV}(h:p.le q):(AV.c p).le (.c q):=fun S ι w v hv=>by
 cases hv with
 |c _ _ hp=>exact .c _ _ (h S w v hp)
def X0z:Ev:=⟨2,0,30,0,0,5,0,[]⟩
def Q2b(b:Bool):Cs:=⟨20,[⟨2,20,false,[]⟩,⟨3,30,b,[X0z]⟩],[]⟩
theorem X8e(b:Bool):Fn Tryz.prog 35 [vb b] [] (csA (Q2b b)) []:=by
 have h:Fn Tryz.prog 35 [vb b] [] (.agg [vi .u64 20,.c (.sl true 4 2 [.v (.int .i64 2),.v (.int .u64 20),.v (.bool false),.v (.slice none 0 0),.v (.int .i64 3),.v (.int .u64 30),.v (.bool b),.sl true 14 1 [.v (.int .i64 2),.v (.int .i64 0),.v (.int .u64 30),.v (.int .u64 0),.v (.int .u8 0),.v (.int .u64 5),.v (.int .u64 0),.v (.int .u64 0),.v (.int .u64 0),.v (.int .u64 0),.v (.int .u64 0),.v (.int .u64 0),.v (.int .u64 0),.v (.slice none 0 0)]]),nilA]) []:=by
  (refine Q0t Tryz.func35 rfl (by rfl) ?_;simp only[Tryz.ntmps35,List.length_cons,List.length_nil,Nat.reduceAdd,Nat.reduceSub,List.replicate,List.cons_append,List.nil_append])
  (repeat(any_goals(first|((with_reducible refine Q2n ?_ ?_);rfl;intro K hK;apply Q2h;rfl;rfl;(focus(simp only[go_sem];try rfl));(focus(simp only[go_sem];try rfl));rfl;(first|omega);(first|omega);(first|omega);(simp only[go_sem];rfl);rfl;(focus((simp only[unC,Option.map_some]);(try rfl)));(simp only[go_sem];refine hK _ ?_;clear hK K))|((with_reducible refine Q0b ?_ ?_);rfl;intro K hK;simp only[go_sem];((repeat(refine ndI (by first|assumption) ?_));refine hK _ ?_;clear hK K))|(with_reducible first|(refine Q0c ?_;refine hR _ ?_;clear hR R)|((first|refine Q0e ?_);intro J hJ hJ')|(refine Q0a ?_;intro R hR)|(refine hJ _ ?_;clear hJ hJ' J)|refine Q0j ?_))))
  all_goals(refine⟨by simp,⟨_,?_,AV.le_refl _⟩,Q0g (by simp[leH,hget])⟩;simp only[Tryz.results35,resL,ldA,Q0m,go_sem])
 have hle:(AV.agg [vi .u64 20,.c (.sl true 4 2 [.v (.int .i64 2),.v (.int .u64 20),.v (.bool false),.v (.slice none 0 0),.v (.int .i64 3),.v (.int .u64 30),.v (.bool b),.sl true 14 1 [.v (.int .i64 2),.v (.int .i64 0),.v (.int .u64 30),.v (.int .u64 0),.v (.int .u8 0),.v (.int .u64 5),.v (.int .u64 0),.v (.int .u64 0),.v (.int .u64 0),.v (.int .u64 0),.v (.int .u64 0),.v (.int .u64 0),.v (.int .u64 0),.v (.slice none 0 0)]]),nilA]).le (csA (Q2b b)):=by
  refine AV.le_agg ⟨AV.le_refl _,AV.le_pv (PV.le_sl (by simp) ?_),AV.le_nil false 1,trivial⟩
  refine⟨PV.le_refl _,PV.le_refl _,PV.le_refl _,PV.le_nil false 14,PV.le_refl _,PV.le_refl _,PV.le_refl _,PV.le_sl (by simp) ?_,trivial⟩
  exact⟨PV.le_refl _,PV.le_refl _,PV.le_refl _,PV.le_refl _,PV.le_refl _,PV.le_refl _,PV.le_refl _,PV.le_refl _,PV.le_refl _,PV.le_refl _,PV.le_refl _,PV.le_refl _,PV.le_refl _,PV.le_nil false 1,trivial⟩
 exact h.weaken hle (fun r cs hr=>by cases hr)
theorem Q8s(b:Bool):(Q2b b).ok:=by
 refine⟨by cases b<;>decide,⟨by cases b<;>decide,fun p hp=>?_⟩,by cases b<;>decide,fun a ha=>by cases ha⟩
 rcases List.mem_cons.1 hp with rfl|hp
 · exact⟨by decide,by decide,fun e he=>by cases he⟩
 · rcases List.mem_cons.1 hp with rfl|hp
   · refine⟨by cases b<;>decide,by cases b<;>decide,fun e he=>?_⟩
     rcases List.mem_cons.1 he with rfl|he
     · exact⟨by decide,by decide,by decide,fun b hb=>(by cases hb),by decide,by decide⟩
     · cases he
   · cases hp
theorem Q4f(b:Bool):Q2z (Q2b b)=true:=by cases b<;>rfl
theorem X8g:brkC (Q2b false)=[⟨1,0,7⟩]:=by rfl
theorem X8f:brkC (Q2b true)=[]:=by rfl
theorem wakes_fnE(h0:Fn Tryz.prog 27 [csA (Q2b false)] [] (bkE (Q5s (Q2b false)) (Q5r (Q2b false))) [])(h1:Fn Tryz.prog 27 [csA (Q2b true)] [] (bkE (Q5s (Q2b true)) (Q5r (Q2b true))) [])
 (F:List Sp) (fo:Fn Tryz.prog 13 [csA (Q2b true)] [] (spl5 false F) []) (ef:F.length=1):Fn Tryz.prog 8 [] [] (vb true) []:=by
 have p0:=X8e false
 have p1:=X8e true
 obtain⟨r,hr1,hr2,en⟩:=X5e (Q2b true) (Q8s true) (Q4f true)
 have e0:Q5s (Q2b false)=⟨1,0,7⟩:=by unfold Q5s Q6p;rw[if_pos (Q4f false),X8g]
 have e1:Q5r (Q2b false)=321:=by unfold Q5r;rw[if_pos (Q4f false),X8g]
 have e2:Q5s (Q2b true)=⟨0,0,0⟩:=by unfold Q5s Q6p;rw[if_pos (Q4f true),X8f]
 have e3:Q5r (Q2b true)=0:=by unfold Q5r;rw[if_pos (Q4f true),X8f]
 rw[e0,e1] at h0
 rw[e2,e3] at h1
 have er:r=[20,30]:=X6d hr1 (by decide) fun x=>by rw[hr2];rfl
 subst er
 clear e0 e1 e2 e3 hr1 hr2
 generalize Q2b false=P0 at p0 h0
 generalize Q2b true=P1 at p1 h1 en fo
 have k1:((F.length:Int)==1)=true:=by rw[ef];rfl
 (refine Q0t Tryz.func8 rfl (by rfl) ?_;simp only[Tryz.ntmps8,List.length_cons,List.length_nil,Nat.reduceAdd,Nat.reduceSub,List.replicate,List.cons_append,List.nil_append])
 (repeat(any_goals(first|((with_reducible refine Q0l ?_ ?_ ?_);rfl;rfl;intro K hK;(first|((apply Q0i (p0);rfl;rfl;rfl;rfl;exact Tryz.func35);kernel_rfl;rfl;(focus((simp only[go_sem,k1]);(try rfl);done));(first|rfl))|((apply Q0i (p1);rfl;rfl;rfl;rfl;exact Tryz.func35);kernel_rfl;rfl;(focus((simp only[go_sem,k1]);(try rfl);done));(first|rfl))|((apply Q0i (h0);rfl;rfl;rfl;rfl;exact Tryz.func27);kernel_rfl;rfl;(focus((simp only[go_sem,k1]);(try rfl);done));(first|rfl))|((apply Q0i (h1);rfl;rfl;rfl;rfl;exact Tryz.func27);kernel_rfl;rfl;(focus((simp only[go_sem,k1]);(try rfl);done));(first|rfl)));(simp only[go_sem,k1];refine hK _ ?_;clear hK K))|((with_reducible refine Q0b ?_ ?_);rfl;intro K hK;simp only[go_sem,k1];((repeat(refine ndI (by first|assumption) ?_));refine hK _ ?_;clear hK K))|(with_reducible first|(refine Q0c ?_;refine hR _ ?_;clear hR R)|((first|refine Q0e ?_);intro J hJ hJ')|(refine Q0a ?_;intro R hR)|(refine hJ _ ?_;clear hJ hJ' J)|refine Q0j ?_)|((with_reducible apply Q0p);rfl;rfl;rfl;all_goals(intro hb;first|(cases hb;done)|((try simp only[Bool.not_true,Bool.not_false] at hb);(first|((with_reducible intro K hK);(first|((first|(apply Q0i (en);rfl;rfl;rfl;rfl;exact Tryz.func17)|(apply Q0i (fo);rfl;rfl;rfl;rfl;exact Tryz.func13));kernel_rfl;rfl;(focus((simp only[go_sem,k1]);(try rfl);done));(first|rfl))|((apply Q0i (p1);rfl;rfl;rfl;rfl;exact Tryz.func35);kernel_rfl;rfl;(focus((simp only[go_sem,k1]);(try rfl);done));(first|rfl))|skip);simp only[go_sem,k1];((repeat(refine ndI (by first|assumption) ?_));refine hK _ ?_;clear hK K)))))))))
 all_goals(refine⟨by simp,⟨_,?_,AV.le_refl _⟩,Q0g (by simp[leH,hget])⟩;simp only[Tryz.results8,resL,ldA,Q0m,go_sem])
end
section
open Go.RowKit
open Nat (reduceBEq)
attribute [-go_sem] IntKind.bits
set_option maxRecDepth 20000
set_option maxHeartbeats 2000000
theorem bk_at{l:List Bk}{i:Nat}{b:Bk}(h:l[i]? = some b):((l.flatMap Bk.pv).drop (i*3)).take 3=[.v (.int .i64 b.i),.v (.int .i64 b.j),.v (.int .i64 b.r)]:=Q4m (f:=Bk.pv) X1m h
end
section
open Go.RowKit
open Nat (reduceBEq)
attribute [-go_sem] IntKind.bits
set_option maxRecDepth 100000
set_option maxHeartbeats 4000000
end
section
open Go.RowKit
open Nat (reduceBEq)
attribute [-go_sem] IntKind.bits
set_option maxRecDepth 20000
set_option maxHeartbeats 2000000
end
section
open Go.RowKit
open Nat (reduceBEq)
attribute [-go_sem] IntKind.bits
set_option maxRecDepth 20000
set_option maxHeartbeats 2000000
end
section
open Go.RowKit
theorem phsB_tr(s:Int):∀{l:List Ph} {k:Int},phsB s l k=true→∀p∈l,trB p.tr=true
 |[],_,_,p,hp=>by cases hp
 |q::l,k,h,p,hp=>by
  unfold phsB phB at h
  obtain⟨g1,g2⟩:=Bool.and_eq_true_iff.1 h
  obtain⟨g3,g4⟩:=Bool.and_eq_true_iff.1 g1
  rcases List.mem_cons.1 hp with rfl|hp
  · cases ht:trB p.tr
    · rw[ht] at g3;simp at g3
    · rfl
  · exact phsB_tr s g2 p hp
theorem case_tr{c:Cs}(h:Q2z c=true):∀p∈c.ph,trB p.tr=true:=by
 unfold Q2z at h
 exact phsB_tr _ (Bool.and_eq_true_iff.1 h).1
theorem all_ok{c:Cs}(ho:c.ok):∀e∈c.ph.flatMap Ph.tr,e.ok:=fun e he=>by
 obtain⟨p,hp,h⟩:=List.mem_flatMap.1 he
 exact(ho.2.1.2 p hp).2.2 e h
theorem all_tr{c:Cs}(hc:Q2z c=true)(hl:(c.ph.flatMap Ph.tr).length≤2000):trB (c.ph.flatMap Ph.tr)=true:=by
 unfold trB
 rw[decide_eq_true hl,Bool.true_and,List.all_eq_true]
 intro e he
 obtain⟨p,hp,h⟩:=List.mem_flatMap.1 he
 have ht:=case_tr hc p hp
 unfold trB at ht
 exact List.all_eq_true.1 (Bool.and_eq_true_iff.1 ht).2 e h
end
section
open Go.RowKit
open Nat (reduceBEq)
attribute [-go_sem] IntKind.bits
set_option maxRecDepth 100000
set_option maxHeartbeats 4000000
end
section
open Go.RowKit
open Nat (reduceBEq)
set_option maxRecDepth 20000
set_option maxHeartbeats 2000000
theorem St.le_setD{T:List AV}{H:List (Nat×List AV)}{k:Nat}{x y:AV}(hx:T.getD k .any=x)(hk:k<T.length)(h:x.le y):(St.mk T H).le (St.mk (T.set k y) H):=
 ⟨by simp,fun i=>by
   show(T.getD i .any).le ((T.set k y).getD i .any)
   rw[List.getD_eq_getElem?_getD,List.getD_eq_getElem?_getD]
   by_cases e:k=i
   · subst e
     rw[List.getElem?_set_self hk,←List.getD_eq_getElem?_getD,hx]
     exact h
   · rw[List.getElem?_set_ne e]
     exact AV.le_refl _,fun _ _ h=>h⟩
theorem St.le_trans{a b c:St}(h:a.le b)(g:b.le c):a.le c:=
 ⟨h.1.trans g.1,fun i S ι w v hv=>g.2 i S ι w v (h.2 i S ι w v hv),fun r cs hr=>h.3 r cs (g.3 r cs hr)⟩
def posD:List Int→Int→Nat
 |[],_=>0
 |y::l,x=>if y<x then posD l x+1 else 0
theorem X6l:∀(l:List Int) (x:Int),posD l x≤l.length
 |[],_=>Nat.le_refl _
 |y::l,x=>by
  have:=X6l l x
  unfold posD
  split
  · rw[List.length_cons];omega
  · exact Nat.zero_le _
theorem posD_lt:∀{l:List Int} {x:Int} {i:Nat} {y:Int},i<posD l x→l[i]? = some y→y<x
 |[],x,i,y,h,hy=>by cases hy
 |z::l,x,i,y,h,hy=>by
  unfold posD at h
  split at h
  · rename_i hz
    cases i with
    |zero=>cases hy;exact hz
    |succ i=>exact posD_lt (Nat.lt_of_succ_lt_succ h) hy
  · omega
theorem posD_ge:∀{l:List Int} {x:Int} {y:Int},l[posD l x]? = some y→x≤y
 |[],x,y,hy=>by cases hy
 |z::l,x,y,hy=>by
  unfold posD at hy
  split at hy
  · exact posD_ge (l:=l) hy
  · rename_i hz
    cases hy
    omega
def insD(l:List Int)(x:Int):List Int:=if l[posD l x]? = some x then l else l.take (posD l x)++([x]++l.drop (posD l x))
def resD(l:List Int):Nat→List Int
 |0=>[]
 |i+1=>match l[i]? with
  |none=>resD l i
  |some x=>insD (resD l i) x
theorem insD_len(l:List Int)(x:Int):(insD l x).length≤l.length+1:=by
 unfold insD
 split
 · omega
 · simp;have:=X6l l x;omega
theorem X1u(l:List Int):∀i,(resD l i).length≤i
 |0=>Nat.le_refl _
 |i+1=>by
  have ih:=X1u l i
  unfold resD
  split
  · omega
  · have:=insD_len (resD l i) ‹Int›;omega
theorem asl_map(l:List Int):l.flatMap apv=l.map fun a=>PV.v (.int .u64 a):=by
 induction l with
 |nil=>rfl
 |cons a l ih=>rw[List.flatMap_cons,ih];rfl
theorem asl_drop(l:List Int)(k:Nat):(l.flatMap apv).drop k=(l.drop k).flatMap apv:=by
 rw[asl_map,asl_map,List.map_drop]
theorem X9r(ex:Bool)(l:List Int)(hl:l.length≤100000):Fn Tryz.prog 40 [asl ex l] [] (asl false (resD l l.length)) []:=by
 obtain⟨tot,htot⟩:∃t,resD l l.length=t:=⟨_,rfl⟩
 rw[htot]
 (refine Q0t Tryz.func40 rfl (by rfl) ?_;simp only[Tryz.ntmps40,List.length_cons,List.length_nil,Nat.reduceAdd,Nat.reduceSub,List.replicate,List.cons_append,List.nil_append])
 (repeat(any_goals(first|((with_reducible refine Q0b ?_ ?_);rfl;intro K hK;simp only[go_sem];((repeat(refine ndI (by first|assumption) ?_));refine hK _ ?_;clear hK K))|(with_reducible first|(refine Q0c ?_;refine hR _ ?_;clear hR R)|((first|refine Q0e ?_|refine Q0f ?_);intro J hJ hJ')|(refine Q0a ?_;intro R hR)|(refine hJ _ ?_;clear hJ hJ' J)))))
 refine Q1t l.length (fun i=>⟨[asl ex l,.any,.any,asl false (resD l i),vi .i64 (i:Int),.any,.any,.any,.any,.any,.any,.any,.any,.any,.any,.any,.any,.any,.any,.any,.any,.any,.any,.any,.any,.any,.any,.any,.any,.any,.any,.any,.any,.any,.any,.any,.any,.any,.any,.any,.any,.any,.any,.any,.any,.any,.any,.any,.any,.any,.any,.any,.any,.any,.any,.any,.any,.any,.any],[]⟩) (St.le_trans (St.le_setD (k:=3) (x:=.c (.v (.slice none 0 0))) rfl (by simp) (AV.le_nil false 1)) (St.le_of (by simp[leT,resD]) (by simp[leH]))) ?_
 intro i hi J hJ hJ'
 (try dsimp only at hJ ⊢)
 rcases Nat.lt_or_ge i l.length with hlt|hge
 · have k1:(decide ((i:Int)<(l.length:Int)))=true:=by simp;omega
   have k7:(i:Int)+1=((i+1:Nat):Int):=by omega
   obtain⟨x,hx⟩:∃x,l[i]? = some x:=⟨_,List.getElem?_eq_getElem hlt⟩
   have k2:=Q6f hx
   have hol:=X1u l i
   have hrs:resD l (i+1)=insD (resD l i) x:=by
    show(match l[i]? with|none=>_|some x=>_)=_
    rw[hx]
   rw[hrs] at hJ
   generalize resD l i=out at hol hJ ⊢
   obtain⟨p,hp⟩:∃p,posD out x=p:=⟨_,rfl⟩
   obtain⟨nxt,hnx⟩:∃r,insD out x=r:=⟨_,rfl⟩
   have hpl:p≤out.length:=by rw[←hp];exact X6l out x
   have hlow:∀a y,a<p→out[a]? = some y→y<x:=fun a y ha hy=>posD_lt (by rw[hp];exact ha) hy
   have hge':∀y,out[p]? = some y→x≤y:=fun y hy=>posD_ge (by rw[hp];exact hy)
   have hdup:out[p]? = some x→nxt=out:=fun h=>by rw[←hnx];unfold insD;rw[hp,if_pos h]
   have hnew:out[p]?≠some x→nxt=out.take p++([x]++out.drop p):=fun h=>by rw[←hnx];unfold insD;rw[hp,if_neg h]
   rw[hnx] at hJ
   clear hrs hp hnx
   (repeat(any_goals(first|((with_reducible refine Q0b ?_ ?_);rfl;intro K hK;simp(disch:=omega) only[go_sem,k1];((repeat(refine ndI (by first|assumption|rfl) ?_));refine hK _ ?_;clear hK K))|(with_reducible first|(refine Q0c ?_;refine hR _ ?_;clear hR R)|((first|refine Q0e ?_|refine Q0f ?_);intro J hJ hJ')|(refine Q0a ?_;intro R hR)|(refine hJ _ ?_;clear hJ hJ' J)|refine Q0h ?_)|((with_reducible apply Q0d);rfl;rfl;all_goals(intro hc;first|(cases hc;done)|(try simp only at hc))))))
   refine Q1t p (fun a=>⟨[asl ex l,.any,.any,asl false out,vi .i64 (i:Int),vi .i64 (a:Int),.any,.any,.any,.any,.any,.any,.any,.any,.any,.any,.any,.any,.any,.any,.any,.any,.any,.any,.any,.any,.any,.any,.any,.any,.any,.any,.any,.any,.any,.any,.any,.any,.any,.any,.any,.any,.any,.any,.any,.any,.any,.any,.any,.any,.any,.any,.any,.any,.any,.any,.any,.any,.any],[]⟩) (St.le_of (by simp[leT]) (by simp[leH])) ?_
   intro a ha J hJ hJ'
   (try dsimp only at hJ ⊢)
   rcases Nat.lt_or_ge a p with halt|hage
   · obtain⟨y,hy⟩:∃y,out[a]? = some y:=⟨_,List.getElem?_eq_getElem (by omega)⟩
     have n1:(decide ((a:Int)<(out.length:Int)))=true:=by simp;omega
     have n2:(decide (y<x))=true:=decide_eq_true (hlow a y halt hy)
     have n3:=Q6f hy
     have n7:(a:Int)+1=((a+1:Nat):Int):=by omega
     have hal:a<out.length:=by omega
     (have W:=ndI n1 (ndI n2 (ndI n3 (ndI n7 (ndI k2 @wrI))));(repeat(any_goals(first|((with_reducible refine Q0b ?_ ?_);rfl;intro K hK;simp(disch:=omega) only[go_sem,W,Nat.mul_one];((repeat(refine ndI (by first|assumption|rfl) ?_));refine hK _ ?_;clear hK K))|(with_reducible first|(refine Q0c ?_;refine hR _ ?_;clear hR R)|((first|refine Q0e ?_|refine Q0f ?_);intro J hJ hJ')|(refine Q0a ?_;intro R hR)|(refine hJ _ ?_;clear hJ hJ' J)|refine Q0h ?_)|((with_reducible refine hJ' _ _ ?_ ?_);(focus(simp;done));clear hJ hJ' J)|((with_reducible apply Q0d);rfl;rfl;all_goals(intro hc;first|(cases hc;done)|(try simp only at hc)))|((with_reducible refine Q0z ?_ ?_);kernel_rfl;(with_reducible refine hR _ ?_);clear hR R)|((first|((first|((with_reducible apply Q0x);rfl;rfl)|((with_reducible apply Q3c);rfl;rfl;rfl;rfl;rfl));(simp(disch:=omega) only[rdE,rdOf,go_sem,W,Nat.mul_one];rfl);(intro τ hA hQ hN;((try simp only[Q1i,Op.operands,Call.operands,go_sem,W,Nat.mul_one,go_sem,List.mem_cons,List.not_mem_nil,forall_eq_or_imp,forall_eq,List.append_toArray,Option.toArray] at hA);(try simp only[go_sem,W,Nat.mul_one,List.mem_cons,List.not_mem_nil,forall_eq_or_imp,forall_eq] at hQ hN);(first|(revert hA;intro hA));(first|(revert hQ;intro hQ));(first|(revert hN;intro hN));simp(disch:=omega) only[go_sem,W,Nat.mul_one,go_sem,hA,hQ,hN];(repeat(refine ndI (by first|assumption|omega|rfl) ?_));(first|apply Q1b)))));(simp(disch:=omega) only[St.eff,setO,Q0u,go_sem,W,Nat.mul_one]))|((with_reducible refine Q0w ?_ ?_ ?_ ?_);kernel_rfl;kernel_rfl;(first|kernel_rfl);intro R hR)))))
     all_goals exact hJ _ halt (St.le_of (by simp[leT]) (by simp[leH]))
   · have eap:a=p:=by omega
     rw[eap]
     obtain⟨T,hT⟩:∃T,(out.take p).flatMap apv=T:=⟨_,rfl⟩
     obtain⟨D,hD⟩:∃D,(out.drop p).flatMap apv=D:=⟨_,rfl⟩
     have f1:(out.flatMap apv).take p=T:=by rw[asl_take,hT]
     have f2:((out.flatMap apv).drop p).take (out.length-p)=D:=by
      rw[asl_drop,hD,List.take_of_length_le]
      rw[←hD,Q0s Q3s,List.length_drop]
      omega
     have f3:T.length=p:=by rw[←hT,Q0s Q3s,List.length_take];omega
     have f4:D.length=out.length-p:=by rw[←hD,Q0s Q3s,List.length_drop];omega
     have heq:out[p]?≠some x→AV.c (.sl false 1 (p+(1+(out.length-p))) (T++(PV.v (.int .u64 x)::D)))=asl false nxt:=fun h=>by
      rw[hnew h]
      unfold asl
      rw[List.flatMap_append,List.flatMap_append,hT,hD,List.length_append,List.length_append,List.length_take,List.length_drop,Nat.min_eq_left hpl]
      rfl
     rcases Nat.lt_or_ge p out.length with hpL|hpL
     · obtain⟨y,hy⟩:∃y,out[p]? = some y:=⟨_,List.getElem?_eq_getElem hpL⟩
       have n1:(decide ((p:Int)<(out.length:Int)))=true:=by simp;omega
       have n2:(decide (y<x))=false:=decide_eq_false (by have:=hge' y hy;omega)
       have n3:=Q6f hy
       by_cases hyx:y=x
       · have n4:(y==x)=true:=by simp[hyx]
         have en:=hdup (by rw[hy,hyx])
         (have W:=ndI n1 (ndI n2 (ndI n3 (ndI n4 (ndI k2 (ndI k7 @wrI)))));(repeat(any_goals(first|((with_reducible refine Q0b ?_ ?_);rfl;intro K hK;simp(disch:=omega) only[go_sem,W,Nat.mul_one];((repeat(refine ndI (by first|assumption|rfl) ?_));refine hK _ ?_;clear hK K))|(with_reducible first|(refine Q0c ?_;refine hR _ ?_;clear hR R)|((first|refine Q0e ?_);intro J hJ hJ')|(refine Q0a ?_;intro R hR)|(refine hJ _ ?_;clear hJ hJ' J)|refine Q0q ?_)|((with_reducible refine hJ' _ _ ?_ ?_);(focus(simp;done));clear hJ hJ' J)|((with_reducible apply Q0d);rfl;rfl;all_goals(intro hc;first|(cases hc;done)|(try simp only at hc)))|((with_reducible refine Q0z ?_ ?_);kernel_rfl;(with_reducible refine hR _ ?_);clear hR R)|((first|((first|((with_reducible apply Q0x);rfl;rfl)|((with_reducible apply Q3c);rfl;rfl;rfl;rfl;rfl));(simp(disch:=omega) only[rdE,rdOf,go_sem,W,Nat.mul_one];rfl);(intro τ hA hQ hN;((try simp only[Q1i,Op.operands,Call.operands,go_sem,W,Nat.mul_one,go_sem,List.mem_cons,List.not_mem_nil,forall_eq_or_imp,forall_eq,List.append_toArray,Option.toArray] at hA);(try simp only[go_sem,W,Nat.mul_one,List.mem_cons,List.not_mem_nil,forall_eq_or_imp,forall_eq] at hQ hN);(first|(revert hA;intro hA));(first|(revert hQ;intro hQ));(first|(revert hN;intro hN));simp(disch:=omega) only[go_sem,W,Nat.mul_one,go_sem,hA,hQ,hN];(repeat(refine ndI (by first|assumption|omega|rfl) ?_));(first|apply Q1b)))));(simp(disch:=omega) only[St.eff,setO,Q0u,go_sem,W,Nat.mul_one]))|((with_reducible refine Q0w ?_ ?_ ?_ ?_);kernel_rfl;kernel_rfl;(first|kernel_rfl);intro R hR)))))
         all_goals exact hJ _ hlt (St.le_of (by simp[leT,en]) (by simp[leH]))
       · have n4:(y==x)=false:=by simp[hyx]
         have en:=heq (by rw[hy];exact fun e=>hyx (Option.some.inj e))
         (have W:=ndI n1 (ndI n2 (ndI n3 (ndI n4 (ndI k2 (ndI k7 (ndI f1 (ndI f2 @wrI)))))));(repeat(any_goals(first|((with_reducible refine Q0b ?_ ?_);rfl;intro K hK;simp(disch:=omega) only[go_sem,W,en,eq_self,decide_true,Nat.mul_one];((repeat(refine ndI (by first|assumption|rfl) ?_));refine hK _ ?_;clear hK K))|(with_reducible first|(refine Q0c ?_;refine hR _ ?_;clear hR R)|((first|refine Q0e ?_);intro J hJ hJ')|(refine Q0a ?_;intro R hR)|(refine hJ _ ?_;clear hJ hJ' J)|refine Q0h ?_|refine Q0q ?_)|((with_reducible refine hJ' _ _ ?_ ?_);(focus(simp;done));clear hJ hJ' J)|((with_reducible apply Q0d);rfl;rfl;all_goals(intro hc;first|(cases hc;done)|(try simp only at hc)))|((with_reducible refine Q0z ?_ ?_);kernel_rfl;(with_reducible refine hR _ ?_);clear hR R)|((first|((first|((with_reducible apply Q0x);rfl;rfl)|((with_reducible apply Q3c);rfl;rfl;rfl;rfl;rfl));(simp(disch:=omega) only[rdE,rdOf,go_sem,W,en,eq_self,decide_true,Nat.mul_one];rfl);(intro τ hA hQ hN;((try simp only[Q1i,Op.operands,Call.operands,go_sem,W,en,eq_self,decide_true,Nat.mul_one,go_sem,List.mem_cons,List.not_mem_nil,forall_eq_or_imp,forall_eq,List.append_toArray,Option.toArray] at hA);(try simp only[go_sem,W,en,eq_self,decide_true,Nat.mul_one,List.mem_cons,List.not_mem_nil,forall_eq_or_imp,forall_eq] at hQ hN);(first|(revert hA;intro hA));(first|(revert hQ;intro hQ));(first|(revert hN;intro hN));simp(disch:=omega) only[go_sem,W,en,eq_self,decide_true,Nat.mul_one,go_sem,hA,hQ,hN];(repeat(refine ndI (by first|assumption|omega|rfl) ?_));(first|apply Q1b))))|((with_reducible apply Q4n);rfl;rfl;rfl;rfl;(focus(simp only[go_sem];try rfl));(first|omega);(first|omega);rfl;rfl;(focus(first|omega|(simp(disch:=omega) only[go_sem,W,en,eq_self,decide_true,Nat.mul_one,spl,List.length_append,List.length_map,List.length_take,List.length_drop,List.length_replicate];omega)));(focus(first|omega|(focus(simp[spl];done))));(focus(first|omega));rfl;(focus(first|omega)))|((first|((with_reducible apply Q6j);rfl));apply Q4k;rfl;rfl;(focus(simp only[go_sem];try rfl));(focus(simp only[go_sem];try rfl));rfl;(first|omega);(first|omega);(first|omega);(simp(disch:=omega) only[go_sem,W,en,eq_self,decide_true,Nat.mul_one];rfl);rfl;(focus((simp(disch:=omega) only[unC,Option.map_some]);(try rfl)))));(simp(disch:=omega) only[St.eff,setO,Q0u,go_sem,W,en,eq_self,decide_true,Nat.mul_one]))|((with_reducible refine Q0w ?_ ?_ ?_ ?_);kernel_rfl;kernel_rfl;(first|kernel_rfl);intro R hR)))))
         all_goals exact hJ _ hlt (St.le_of (by simp[leT]) (by simp[leH]))
     · have n1:(decide ((p:Int)<(out.length:Int)))=false:=by simp;omega
       have en:=heq (by rw[List.getElem?_eq_none hpL];exact fun e=>by cases e)
       (have W:=ndI n1 (ndI k2 (ndI k7 (ndI f1 (ndI f2 @wrI))));(repeat(any_goals(first|((with_reducible refine Q0b ?_ ?_);rfl;intro K hK;simp(disch:=omega) only[go_sem,W,en,eq_self,decide_true,Nat.mul_one];((repeat(refine ndI (by first|assumption|rfl) ?_));refine hK _ ?_;clear hK K))|(with_reducible first|(refine Q0c ?_;refine hR _ ?_;clear hR R)|((first|refine Q0e ?_);intro J hJ hJ')|(refine Q0a ?_;intro R hR)|(refine hJ _ ?_;clear hJ hJ' J)|refine Q0h ?_|refine Q0q ?_)|((with_reducible refine hJ' _ _ ?_ ?_);(focus(simp;done));clear hJ hJ' J)|((with_reducible apply Q0d);rfl;rfl;all_goals(intro hc;first|(cases hc;done)|(try simp only at hc)))|((with_reducible refine Q0z ?_ ?_);kernel_rfl;(with_reducible refine hR _ ?_);clear hR R)|((first|((with_reducible apply Q3q);rfl;rfl;rfl;rfl)|((first|((with_reducible apply Q0x);rfl;rfl));(simp(disch:=omega) only[rdE,rdOf,go_sem,W,en,eq_self,decide_true,Nat.mul_one];rfl);(intro τ hA hQ hN;((try simp only[Q1i,Op.operands,Call.operands,go_sem,W,en,eq_self,decide_true,Nat.mul_one,go_sem,List.mem_cons,List.not_mem_nil,forall_eq_or_imp,forall_eq,List.append_toArray,Option.toArray] at hA);(try simp only[go_sem,W,en,eq_self,decide_true,Nat.mul_one,List.mem_cons,List.not_mem_nil,forall_eq_or_imp,forall_eq] at hQ hN);(first|(revert hA;intro hA));(first|(revert hQ;intro hQ));(first|(revert hN;intro hN));simp(disch:=omega) only[go_sem,W,en,eq_self,decide_true,Nat.mul_one,go_sem,hA,hQ,hN];(repeat(refine ndI (by first|assumption|omega|rfl) ?_));(first|apply Q1b))))|((with_reducible apply Q4n);rfl;rfl;rfl;rfl;(focus(simp only[go_sem];try rfl));(first|omega);(first|omega);rfl;rfl;(focus(first|omega|(simp(disch:=omega) only[go_sem,W,en,eq_self,decide_true,Nat.mul_one,spl,List.length_append,List.length_map,List.length_take,List.length_drop,List.length_replicate];omega)));(focus(first|omega|(focus(simp[spl];done))));(focus(first|omega));rfl;(focus(first|omega)))|((first|((with_reducible apply Q6j);rfl));apply Q4k;rfl;rfl;(focus(simp only[go_sem];try rfl));(focus(simp only[go_sem];try rfl));rfl;(first|omega);(first|omega);(first|omega);(simp(disch:=omega) only[go_sem,W,en,eq_self,decide_true,Nat.mul_one];rfl);rfl;(focus((simp(disch:=omega) only[unC,Option.map_some]);(try rfl)))));(simp(disch:=omega) only[St.eff,setO,Q0u,go_sem,W,en,eq_self,decide_true,Nat.mul_one]))|((with_reducible refine Q0w ?_ ?_ ?_ ?_);kernel_rfl;kernel_rfl;(first|kernel_rfl);intro R hR)))))
       all_goals exact hJ _ hlt (St.le_of (by simp[leT]) (by simp[leH]))
 · have k1:(decide ((i:Int)<(l.length:Int)))=false:=by simp;omega
   obtain rfl:i=l.length:=by omega
   rw[htot]
   (repeat(any_goals(first|((with_reducible refine Q0b ?_ ?_);rfl;intro K hK;simp only[go_sem,k1];((repeat(refine ndI (by first|assumption) ?_));refine hK _ ?_;clear hK K))|(with_reducible first|(refine Q0c ?_;refine hR _ ?_;clear hR R)|((first|refine Q0e ?_);intro J hJ hJ')|(refine Q0a ?_;intro R hR)|(refine hJ _ ?_;clear hJ hJ' J)|refine Q0j ?_|refine Q0q ?_)|((with_reducible refine hJ' _ _ ?_ ?_);(focus(simp;done));clear hJ hJ' J)|((with_reducible apply Q0d);rfl;rfl;all_goals(intro hc;first|(cases hc;done)|(try simp only at hc))))))
   all_goals(refine⟨by simp,⟨_,?_,AV.le_refl _⟩,Q0g (by simp[leH,hget])⟩;simp only[Tryz.results40,resL,ldA,Q0m,go_sem])
end
end Go.Proofs.YtgdjkkapgghdbaaGreatDoor
