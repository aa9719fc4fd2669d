/- One name for the printed texts that the laws of this seat take as those of the other. -/
import Derived.Test.YtdfaljcdphbgdaaDoorPRefx3
import Derived.Test.YtdfaljcdphbgdaaDoorPRefx4
