/- One name for the printed text that the laws of this seat take as those of the other. -/
import Derived.Test.YtdfaljcdphbgdaaDoorPRefx5
